/- FreeNames: the chapter's examples: the call returns true. -/
import Derived.Deep.RegionHeld3
import Derived.Test.YtofoenlhbmammaaGreatQ0FreeAliveF11
import Derived.Test.YtofoenlhbmammaaGreatQ0RowYardF11
set_option linter.unusedVariables false
set_option linter.unusedSimpArgs false
namespace Go.Proofs.YtofoenlhbmammaaGreat

section
open Go.ChangeShapes Go.WideShapes Go.ChangeAt Go.RowKit Go.Shelf

theorem ex_av2 : avV twoY [2] [0] 2 4 = ([3], [1]) ∧ avE twoY [2] [0] 2 4 = 0 := ⟨by kernel_rfl, by kernel_rfl⟩
theorem ex_soon2 : soonV twoY oneP [1] [0] 0 2 = 0 ∧ soonE twoY oneP [1] [0] 0 2 = 6 := ⟨by kernel_rfl, by kernel_rfl⟩
theorem ex_soon3 : soonV twoY oneP [0] [0] 0 0 = 0 ∧ soonE twoY oneP [0] [0] 0 0 = 2 := ⟨by kernel_rfl, by kernel_rfl⟩
theorem ex_hold : holdV twoY.d oneP [4] [0] = false ∧ holdE twoY.d oneP [4] [0] = 8 := ⟨by kernel_rfl, by kernel_rfl⟩
theorem ss_lit (W : World) (t : TypeId) (a : Int) (x : Nat) (ha : a = x) (hx : x < 18446744073709551616) : SS (W.alloc (.cells #[.int .u64 a] t)) (.slice (some ⟨W.heap.size, 0, none⟩) 1 1) [x] := by
  subst ha
  exact SS.new1 W t x hx
theorem ss_lit2 (W : World) (t : TypeId) (a b : Int) (x y : Nat) (ha : a = x) (hb : b = y) (hx : x < 18446744073709551616) (hy : y < 18446744073709551616) :
    SS ((W.alloc (.cells #[.int .u64 a] t)).alloc (.cells #[.int .u64 b] t)) (.slice (some ⟨W.heap.size, 0, none⟩) 1 1) [x] ∧ SS ((W.alloc (.cells #[.int .u64 a] t)).alloc (.cells #[.int .u64 b] t)) (.slice (some ⟨W.heap.size + 1, 0, none⟩) 1 1) [y] := by
  subst ha
  subst hb
  exact ⟨(ss_two W t x y hx hy).1, (ss_two W t x y hx hy).2.1⟩
set_option maxRecDepth 100000 in set_option maxHeartbeats 4000000 in
theorem law11_FreeNames (w : World) : Calls Tryz.prog 4 #[] w (RB w (.bool true)) := by
  have N1 := Lib.hid (fun W => law11_some W)
  have N2 := Lib.hid (fun W => law11_one W)
  have AL := Lib.hid (fun W => law11_alive W)
  have B1 := Lib.hid (fun W v a b (h : YS W v twoY) (h1 : SS W a [2]) (h2 : SS W b [0]) => by have := free_Avoid v twoY a b [2] [0] 2 4 W h h1 h2; rw [ex_av2.1, ex_av2.2] at this; exact this)
  have B2 := Lib.hid (fun W v a b (h : YS W v twoY) (h1 : SS W a [1]) (h2 : SS W b [0]) => show Calls Tryz.prog 14 #[v, .agg #[.int .i64 0, .int .i64 0, .int .i64 0, .int .i64 1, .int .i64 1, .int .i64 1, .bool false, .bool false, .bool false], a, b, .int .i64 0, .int .i64 2] W (RB W (.tuple #[.int .i64 0, .int .i64 6])) from by have := free_Soon v twoY oneP a b [1] [0] 0 2 W h h1 h2; rw [ex_soon2.1, ex_soon2.2] at this; exact this)
  have B3 := Lib.hid (fun W v a b (h : YS W v twoY) (h1 : SS W a [0]) (h2 : SS W b [0]) => show Calls Tryz.prog 14 #[v, .agg #[.int .i64 0, .int .i64 0, .int .i64 0, .int .i64 1, .int .i64 1, .int .i64 1, .bool false, .bool false, .bool false], a, b, .int .i64 0, .int .i64 0] W (RB W (.tuple #[.int .i64 0, .int .i64 2])) from by have := free_Soon v twoY oneP a b [0] [0] 0 0 W h h1 h2; rw [ex_soon3.1, ex_soon3.2] at this; exact this)
  have B4 := Lib.hid (fun W a b (h1 : SS W a [4]) (h2 : SS W b [0]) => show Calls Tryz.prog 12 #[.agg #[.int .i64 twoY.d.x, .int .i64 twoY.d.y, .int .i64 twoY.d.z], .agg #[.int .i64 0, .int .i64 0, .int .i64 0, .int .i64 1, .int .i64 1, .int .i64 1, .bool false, .bool false, .bool false], a, b] W (RB W (.tuple #[.bool false, .int .i64 8])) from by have := free_Holds twoY.d oneP a b [4] [0] W h1 h2; rw [ex_hold.1, ex_hold.2] at this; exact this)
  have E1 := Lib.hid (fun W u v (h : SS W u [3]) (h2 : SS W v [3]) => Calls.rb_eq (SS.same h h2) (show Value.bool (decide ([3] = [3])) = .bool true by simp))
  have E2 := Lib.hid (fun W u v (h : SS W u [1]) (h2 : SS W v [1]) => Calls.rb_eq (SS.same h h2) (show Value.bool (decide ([1] = [1])) = .bool true by simp))
  go_enter Tryz.func4, Tryz.ntmps4
  go_wp2_with fail
  refine (N1.out _).mono ?_
  rintro e w1 ⟨v, rfl, hv, hb1⟩
  obtain ⟨bn, bl, cn, cl, rfl, _⟩ := hv.ex
  have HY := Lib.hid hv
  have HB := Lib.hid hb1
  clear hv hb1
  go_upto_region 2 with fail
  obtain ⟨W1, hW1⟩ : ∃ W1, W1 = w1.alloc (.cells #[.int .i64 twoY.d.x, .int .i64 twoY.d.y, .int .i64 twoY.d.z, (.slice bn twoY.ns.length cn), (.slice bl twoY.ls.length cl)] 26) := ⟨_, rfl⟩
  rw [← hW1]
  have hb2 : Below w1.heap.size w1 W1 := by rw [hW1]; (repeat (first | (with_reducible exact Below.refl _ _) | (with_reducible assumption) | (with_reducible refine below_alloc ?_ _) | (with_reducible refine below_drewN ?_ _) | (with_reducible refine Below.drew ?_) | (with_reducible refine below_then ?_ (by with_reducible assumption)) | (with_reducible refine Below.setCell ?_ (by go_size) _)))
  have YB := Lib.hid (show Blk W1 w1.heap.size 26 #[.int .i64 twoY.d.x, .int .i64 twoY.d.y, .int .i64 twoY.d.z, (.slice bn twoY.ns.length cn), (.slice bl twoY.ls.length cl)] by rw [hW1]; exact Blk.new ..)
  have HY := Lib.hid (HY.out.keep hb2)
  have HB := Lib.hid (below_then HB.out hb2)
  clear hb2 hW1
  (have y0 := YB.out.cell 0 _ rfl; have y1 := YB.out.cell 1 _ rfl; have y2 := YB.out.cell 2 _ rfl; have y3 := YB.out.cell 3 _ rfl; have y4 := YB.out.cell 4 _ rfl)
  obtain ⟨s1, s2, hbs⟩ := ss_two W1 56 2 0 (by decide) (by decide)
  have S1 := Lib.hid s1
  have S2 := Lib.hid s2
  have HBS := Lib.hid hbs
  clear s1 s2 hbs
  go_wp2_with fail
  refine (B1.out _ _ _ _ (HY.out.keep HBS.out) S1.out S2.out).mono ?_
  rintro e w2 ⟨a1, a2, rfl, A1, A2, hb⟩
  have hb' := below_then HBS.out hb
  have YB := Lib.hid (YB.out.below hb')
  have HY := Lib.hid (HY.out.keep hb')
  have HB := Lib.hid (below_then HB.out hb')
  have A1 := Lib.hid A1
  have A2 := Lib.hid A2
  clear hb hb' S1 S2 HBS B1
  clear y0 y1 y2 y3 y4
  (have y0 := YB.out.cell 0 _ rfl; have y1 := YB.out.cell 1 _ rfl; have y2 := YB.out.cell 2 _ rfl; have y3 := YB.out.cell 3 _ rfl; have y4 := YB.out.cell 4 _ rfl)
  have hly := YB.out.lt
  go_upto_region 3 with fail
  go_cut [6, 7] (fun s6 s7 wx => s6 = .int .i64 0 ∧ s7 = .int .i64 6 ∧ Below w2.heap.size w2 wx)
  case first =>
    have mixed : Tryz.prog.follows .mixedOrders = true := by kernel_rfl
    go_region_held3 (fun W => W.cell? ⟨w1.heap.size, 0, none⟩ = some (.int .i64 twoY.d.x) ∧ W.cell? ⟨w1.heap.size, 1, none⟩ = some (.int .i64 twoY.d.y) ∧ W.cell? ⟨w1.heap.size, 2, none⟩ = some (.int .i64 twoY.d.z) ∧ W.cell? ⟨w1.heap.size, 3, none⟩ = some (.slice bn twoY.ns.length cn) ∧ W.cell? ⟨w1.heap.size, 4, none⟩ = some (.slice bl twoY.ls.length cl)) (go_keep) (first
      | (go_at_call 19; (with_reducible refine (N2.out _).mono ?_); rintro e wo ⟨rfl, hbo⟩; have YBo := YB.out.below (below_then (show Below w2.heap.size w2 _ by (repeat (first | (with_reducible exact Below.refl _ _) | (with_reducible assumption) | (with_reducible refine below_alloc ?_ _) | (with_reducible refine below_drewN ?_ _) | (with_reducible refine Below.drew ?_) | (with_reducible refine below_then ?_ (by with_reducible assumption)) | (with_reducible refine Below.setCell ?_ (by go_size) _)))) hbo); have yo0 := YBo.cell 0 _ rfl; have yo1 := YBo.cell 1 _ rfl; have yo2 := YBo.cell 2 _ rfl; have yo3 := YBo.cell 3 _ rfl; have yo4 := YBo.cell 4 _ rfl; have hlyo := YBo.lt)
      | (go_at_call 14; (with_reducible refine (B2.out _ _ _ _ ?_ ?_ ?_).mono ?_); (focus (exact HY.out.keep (by (repeat (first | (with_reducible exact Below.refl _ _) | (with_reducible assumption) | (with_reducible refine below_alloc ?_ _) | (with_reducible refine below_drewN ?_ _) | (with_reducible refine Below.drew ?_) | (with_reducible refine below_then ?_ (by with_reducible assumption)) | (with_reducible refine Below.setCell ?_ (by go_size) _)))))); (focus (first | exact (ss_lit2 _ 56 1 0 1 0 rfl rfl (by decide) (by decide)).1 | exact (ss_lit2 _ 56 0 1 0 1 rfl rfl (by decide) (by decide)).2 | exact ss_lit _ 56 1 1 rfl (by decide) | exact (ss_lit _ 56 1 1 rfl (by decide)).keep (by (repeat (first | (with_reducible exact Below.refl _ _) | (with_reducible assumption) | (with_reducible refine below_alloc ?_ _) | (with_reducible refine below_drewN ?_ _) | (with_reducible refine Below.drew ?_) | (with_reducible refine below_then ?_ (by with_reducible assumption)) | (with_reducible refine Below.setCell ?_ (by go_size) _)))) | exact (ss_lit2 _ 56 1 0 1 0 rfl rfl (by decide) (by decide)).1.keep (by (repeat (first | (with_reducible exact Below.refl _ _) | (with_reducible assumption) | (with_reducible refine below_alloc ?_ _) | (with_reducible refine below_drewN ?_ _) | (with_reducible refine Below.drew ?_) | (with_reducible refine below_then ?_ (by with_reducible assumption)) | (with_reducible refine Below.setCell ?_ (by go_size) _)))) | exact (ss_lit2 _ 56 0 1 0 1 rfl rfl (by decide) (by decide)).2.keep (by (repeat (first | (with_reducible exact Below.refl _ _) | (with_reducible assumption) | (with_reducible refine below_alloc ?_ _) | (with_reducible refine below_drewN ?_ _) | (with_reducible refine Below.drew ?_) | (with_reducible refine below_then ?_ (by with_reducible assumption)) | (with_reducible refine Below.setCell ?_ (by go_size) _)))))); (focus (first | exact (ss_lit2 _ 56 0 1 0 1 rfl rfl (by decide) (by decide)).1 | exact (ss_lit2 _ 56 1 0 1 0 rfl rfl (by decide) (by decide)).2 | exact ss_lit _ 56 0 0 rfl (by decide) | exact (ss_lit _ 56 0 0 rfl (by decide)).keep (by (repeat (first | (with_reducible exact Below.refl _ _) | (with_reducible assumption) | (with_reducible refine below_alloc ?_ _) | (with_reducible refine below_drewN ?_ _) | (with_reducible refine Below.drew ?_) | (with_reducible refine below_then ?_ (by with_reducible assumption)) | (with_reducible refine Below.setCell ?_ (by go_size) _)))) | exact (ss_lit2 _ 56 0 1 0 1 rfl rfl (by decide) (by decide)).1.keep (by (repeat (first | (with_reducible exact Below.refl _ _) | (with_reducible assumption) | (with_reducible refine below_alloc ?_ _) | (with_reducible refine below_drewN ?_ _) | (with_reducible refine Below.drew ?_) | (with_reducible refine below_then ?_ (by with_reducible assumption)) | (with_reducible refine Below.setCell ?_ (by go_size) _)))) | exact (ss_lit2 _ 56 1 0 1 0 rfl rfl (by decide) (by decide)).2.keep (by (repeat (first | (with_reducible exact Below.refl _ _) | (with_reducible assumption) | (with_reducible refine below_alloc ?_ _) | (with_reducible refine below_drewN ?_ _) | (with_reducible refine Below.drew ?_) | (with_reducible refine below_then ?_ (by with_reducible assumption)) | (with_reducible refine Below.setCell ?_ (by go_size) _)))))); rintro e wz ⟨rfl, hbz⟩; have HZ := below_then (show Below w2.heap.size w2 _ by (repeat (first | (with_reducible exact Below.refl _ _) | (with_reducible assumption) | (with_reducible refine below_alloc ?_ _) | (with_reducible refine below_drewN ?_ _) | (with_reducible refine Below.drew ?_) | (with_reducible refine below_then ?_ (by with_reducible assumption)) | (with_reducible refine Below.setCell ?_ (by go_size) _)))) hbz; have YBz := YB.out.below HZ; have yz0 := YBz.cell 0 _ rfl; have yz1 := YBz.cell 1 _ rfl; have yz2 := YBz.cell 2 _ rfl; have yz3 := YBz.cell 3 _ rfl; have yz4 := YBz.cell 4 _ rfl))
    all_goals
      go_wp2_with fail
      go_meet
      exact ⟨rfl, rfl, HZ⟩
  case rest =>
    obtain ⟨rfl, rfl, hcb⟩ := hcut
    have A1 := Lib.hid (A1.out.keep hcb)
    have A2 := Lib.hid (A2.out.keep hcb)
    have HB := Lib.hid (below_then HB.out hcb)
    have YB := Lib.hid (YB.out.below hcb)
    have HY := Lib.hid (HY.out.keep hcb)
    clear hcb hly
    clear y0 y1 y2 y3 y4
    (have y0 := YB.out.cell 0 _ rfl; have y1 := YB.out.cell 1 _ rfl; have y2 := YB.out.cell 2 _ rfl; have y3 := YB.out.cell 3 _ rfl; have y4 := YB.out.cell 4 _ rfl)
    have hly := YB.out.lt
    go_upto_region 4 with fail
    go_cut [8, 9] (fun s6 s7 wx => s6 = .int .i64 0 ∧ s7 = .int .i64 2 ∧ Below wc.heap.size wc wx)
    case first =>
      have mixed : Tryz.prog.follows .mixedOrders = true := by kernel_rfl
      go_region_held3 (fun W => W.cell? ⟨w1.heap.size, 0, none⟩ = some (.int .i64 twoY.d.x) ∧ W.cell? ⟨w1.heap.size, 1, none⟩ = some (.int .i64 twoY.d.y) ∧ W.cell? ⟨w1.heap.size, 2, none⟩ = some (.int .i64 twoY.d.z) ∧ W.cell? ⟨w1.heap.size, 3, none⟩ = some (.slice bn twoY.ns.length cn) ∧ W.cell? ⟨w1.heap.size, 4, none⟩ = some (.slice bl twoY.ls.length cl)) (go_keep) (first
        | (go_at_call 19; (with_reducible refine (N2.out _).mono ?_); rintro e wo ⟨rfl, hbo⟩; have YBo := YB.out.below (below_then (show Below wc.heap.size wc _ by (repeat (first | (with_reducible exact Below.refl _ _) | (with_reducible assumption) | (with_reducible refine below_alloc ?_ _) | (with_reducible refine below_drewN ?_ _) | (with_reducible refine Below.drew ?_) | (with_reducible refine below_then ?_ (by with_reducible assumption)) | (with_reducible refine Below.setCell ?_ (by go_size) _)))) hbo); have yo0 := YBo.cell 0 _ rfl; have yo1 := YBo.cell 1 _ rfl; have yo2 := YBo.cell 2 _ rfl; have yo3 := YBo.cell 3 _ rfl; have yo4 := YBo.cell 4 _ rfl; have hlyo := YBo.lt)
        | (go_at_call 14; (with_reducible refine (B3.out _ _ _ _ ?_ ?_ ?_).mono ?_); (focus (exact HY.out.keep (by (repeat (first | (with_reducible exact Below.refl _ _) | (with_reducible assumption) | (with_reducible refine below_alloc ?_ _) | (with_reducible refine below_drewN ?_ _) | (with_reducible refine Below.drew ?_) | (with_reducible refine below_then ?_ (by with_reducible assumption)) | (with_reducible refine Below.setCell ?_ (by go_size) _)))))); (focus (first | exact (ss_lit2 _ 56 0 0 0 0 rfl rfl (by decide) (by decide)).1 | exact (ss_lit2 _ 56 0 0 0 0 rfl rfl (by decide) (by decide)).2 | exact ss_lit _ 56 0 0 rfl (by decide) | exact (ss_lit _ 56 0 0 rfl (by decide)).keep (by (repeat (first | (with_reducible exact Below.refl _ _) | (with_reducible assumption) | (with_reducible refine below_alloc ?_ _) | (with_reducible refine below_drewN ?_ _) | (with_reducible refine Below.drew ?_) | (with_reducible refine below_then ?_ (by with_reducible assumption)) | (with_reducible refine Below.setCell ?_ (by go_size) _)))) | exact (ss_lit2 _ 56 0 0 0 0 rfl rfl (by decide) (by decide)).1.keep (by (repeat (first | (with_reducible exact Below.refl _ _) | (with_reducible assumption) | (with_reducible refine below_alloc ?_ _) | (with_reducible refine below_drewN ?_ _) | (with_reducible refine Below.drew ?_) | (with_reducible refine below_then ?_ (by with_reducible assumption)) | (with_reducible refine Below.setCell ?_ (by go_size) _)))) | exact (ss_lit2 _ 56 0 0 0 0 rfl rfl (by decide) (by decide)).2.keep (by (repeat (first | (with_reducible exact Below.refl _ _) | (with_reducible assumption) | (with_reducible refine below_alloc ?_ _) | (with_reducible refine below_drewN ?_ _) | (with_reducible refine Below.drew ?_) | (with_reducible refine below_then ?_ (by with_reducible assumption)) | (with_reducible refine Below.setCell ?_ (by go_size) _)))))); (focus (first | exact (ss_lit2 _ 56 0 0 0 0 rfl rfl (by decide) (by decide)).1 | exact (ss_lit2 _ 56 0 0 0 0 rfl rfl (by decide) (by decide)).2 | exact ss_lit _ 56 0 0 rfl (by decide) | exact (ss_lit _ 56 0 0 rfl (by decide)).keep (by (repeat (first | (with_reducible exact Below.refl _ _) | (with_reducible assumption) | (with_reducible refine below_alloc ?_ _) | (with_reducible refine below_drewN ?_ _) | (with_reducible refine Below.drew ?_) | (with_reducible refine below_then ?_ (by with_reducible assumption)) | (with_reducible refine Below.setCell ?_ (by go_size) _)))) | exact (ss_lit2 _ 56 0 0 0 0 rfl rfl (by decide) (by decide)).1.keep (by (repeat (first | (with_reducible exact Below.refl _ _) | (with_reducible assumption) | (with_reducible refine below_alloc ?_ _) | (with_reducible refine below_drewN ?_ _) | (with_reducible refine Below.drew ?_) | (with_reducible refine below_then ?_ (by with_reducible assumption)) | (with_reducible refine Below.setCell ?_ (by go_size) _)))) | exact (ss_lit2 _ 56 0 0 0 0 rfl rfl (by decide) (by decide)).2.keep (by (repeat (first | (with_reducible exact Below.refl _ _) | (with_reducible assumption) | (with_reducible refine below_alloc ?_ _) | (with_reducible refine below_drewN ?_ _) | (with_reducible refine Below.drew ?_) | (with_reducible refine below_then ?_ (by with_reducible assumption)) | (with_reducible refine Below.setCell ?_ (by go_size) _)))))); rintro e wz ⟨rfl, hbz⟩; have HZ := below_then (show Below wc.heap.size wc _ by (repeat (first | (with_reducible exact Below.refl _ _) | (with_reducible assumption) | (with_reducible refine below_alloc ?_ _) | (with_reducible refine below_drewN ?_ _) | (with_reducible refine Below.drew ?_) | (with_reducible refine below_then ?_ (by with_reducible assumption)) | (with_reducible refine Below.setCell ?_ (by go_size) _)))) hbz; have YBz := YB.out.below HZ; have yz0 := YBz.cell 0 _ rfl; have yz1 := YBz.cell 1 _ rfl; have yz2 := YBz.cell 2 _ rfl; have yz3 := YBz.cell 3 _ rfl; have yz4 := YBz.cell 4 _ rfl))
      all_goals
        go_wp2_with fail
        go_meet
        exact ⟨rfl, rfl, HZ⟩
    case rest =>
      obtain ⟨rfl, rfl, hcb⟩ := hcut
      have A1 := Lib.hid (A1.out.keep hcb)
      have A2 := Lib.hid (A2.out.keep hcb)
      have HB := Lib.hid (below_then HB.out hcb)
      have YB := Lib.hid (YB.out.below hcb)
      have HY := Lib.hid (HY.out.keep hcb)
      clear hcb hly
      clear y0 y1 y2 y3 y4
      (have y0 := YB.out.cell 0 _ rfl; have y1 := YB.out.cell 1 _ rfl; have y2 := YB.out.cell 2 _ rfl; have y3 := YB.out.cell 3 _ rfl; have y4 := YB.out.cell 4 _ rfl)
      have hly := YB.out.lt
      go_upto_region 5 with fail
      go_cut [10, 11] (fun s6 s7 wx => s6 = .bool false ∧ s7 = .int .i64 8 ∧ Below wc.heap.size wc wx)
      case first =>
        have mixed : Tryz.prog.follows .mixedOrders = true := by kernel_rfl
        go_region_held3 (fun W => W.cell? ⟨w1.heap.size, 0, none⟩ = some (.int .i64 twoY.d.x) ∧ W.cell? ⟨w1.heap.size, 1, none⟩ = some (.int .i64 twoY.d.y) ∧ W.cell? ⟨w1.heap.size, 2, none⟩ = some (.int .i64 twoY.d.z) ∧ W.cell? ⟨w1.heap.size, 3, none⟩ = some (.slice bn twoY.ns.length cn) ∧ W.cell? ⟨w1.heap.size, 4, none⟩ = some (.slice bl twoY.ls.length cl)) (go_keep) (first
          | (go_at_call 19; (with_reducible refine (N2.out _).mono ?_); rintro e wo ⟨rfl, hbo⟩; have YBo := YB.out.below (below_then (show Below wc.heap.size wc _ by (repeat (first | (with_reducible exact Below.refl _ _) | (with_reducible assumption) | (with_reducible refine below_alloc ?_ _) | (with_reducible refine below_drewN ?_ _) | (with_reducible refine Below.drew ?_) | (with_reducible refine below_then ?_ (by with_reducible assumption)) | (with_reducible refine Below.setCell ?_ (by go_size) _)))) hbo); have yo0 := YBo.cell 0 _ rfl; have yo1 := YBo.cell 1 _ rfl; have yo2 := YBo.cell 2 _ rfl; have yo3 := YBo.cell 3 _ rfl; have yo4 := YBo.cell 4 _ rfl; have hlyo := YBo.lt)
          | (go_at_call 12; (with_reducible refine (B4.out _ _ _ ?_ ?_).mono ?_); (focus (first | exact (ss_lit2 _ 56 4 0 4 0 rfl rfl (by decide) (by decide)).1 | exact (ss_lit2 _ 56 0 4 0 4 rfl rfl (by decide) (by decide)).2 | exact ss_lit _ 56 4 4 rfl (by decide) | exact (ss_lit _ 56 4 4 rfl (by decide)).keep (by (repeat (first | (with_reducible exact Below.refl _ _) | (with_reducible assumption) | (with_reducible refine below_alloc ?_ _) | (with_reducible refine below_drewN ?_ _) | (with_reducible refine Below.drew ?_) | (with_reducible refine below_then ?_ (by with_reducible assumption)) | (with_reducible refine Below.setCell ?_ (by go_size) _)))) | exact (ss_lit2 _ 56 4 0 4 0 rfl rfl (by decide) (by decide)).1.keep (by (repeat (first | (with_reducible exact Below.refl _ _) | (with_reducible assumption) | (with_reducible refine below_alloc ?_ _) | (with_reducible refine below_drewN ?_ _) | (with_reducible refine Below.drew ?_) | (with_reducible refine below_then ?_ (by with_reducible assumption)) | (with_reducible refine Below.setCell ?_ (by go_size) _)))) | exact (ss_lit2 _ 56 0 4 0 4 rfl rfl (by decide) (by decide)).2.keep (by (repeat (first | (with_reducible exact Below.refl _ _) | (with_reducible assumption) | (with_reducible refine below_alloc ?_ _) | (with_reducible refine below_drewN ?_ _) | (with_reducible refine Below.drew ?_) | (with_reducible refine below_then ?_ (by with_reducible assumption)) | (with_reducible refine Below.setCell ?_ (by go_size) _)))))); (focus (first | exact (ss_lit2 _ 56 0 4 0 4 rfl rfl (by decide) (by decide)).1 | exact (ss_lit2 _ 56 4 0 4 0 rfl rfl (by decide) (by decide)).2 | exact ss_lit _ 56 0 0 rfl (by decide) | exact (ss_lit _ 56 0 0 rfl (by decide)).keep (by (repeat (first | (with_reducible exact Below.refl _ _) | (with_reducible assumption) | (with_reducible refine below_alloc ?_ _) | (with_reducible refine below_drewN ?_ _) | (with_reducible refine Below.drew ?_) | (with_reducible refine below_then ?_ (by with_reducible assumption)) | (with_reducible refine Below.setCell ?_ (by go_size) _)))) | exact (ss_lit2 _ 56 0 4 0 4 rfl rfl (by decide) (by decide)).1.keep (by (repeat (first | (with_reducible exact Below.refl _ _) | (with_reducible assumption) | (with_reducible refine below_alloc ?_ _) | (with_reducible refine below_drewN ?_ _) | (with_reducible refine Below.drew ?_) | (with_reducible refine below_then ?_ (by with_reducible assumption)) | (with_reducible refine Below.setCell ?_ (by go_size) _)))) | exact (ss_lit2 _ 56 4 0 4 0 rfl rfl (by decide) (by decide)).2.keep (by (repeat (first | (with_reducible exact Below.refl _ _) | (with_reducible assumption) | (with_reducible refine below_alloc ?_ _) | (with_reducible refine below_drewN ?_ _) | (with_reducible refine Below.drew ?_) | (with_reducible refine below_then ?_ (by with_reducible assumption)) | (with_reducible refine Below.setCell ?_ (by go_size) _)))))); rintro e wz ⟨rfl, hbz⟩; have HZ := below_then (show Below wc.heap.size wc _ by (repeat (first | (with_reducible exact Below.refl _ _) | (with_reducible assumption) | (with_reducible refine below_alloc ?_ _) | (with_reducible refine below_drewN ?_ _) | (with_reducible refine Below.drew ?_) | (with_reducible refine below_then ?_ (by with_reducible assumption)) | (with_reducible refine Below.setCell ?_ (by go_size) _)))) hbz; have YBz := YB.out.below HZ; have yz0 := YBz.cell 0 _ rfl; have yz1 := YBz.cell 1 _ rfl; have yz2 := YBz.cell 2 _ rfl; have yz3 := YBz.cell 3 _ rfl; have yz4 := YBz.cell 4 _ rfl))
        all_goals
          go_wp2_with fail
          go_meet
          exact ⟨rfl, rfl, HZ⟩
      case rest =>
        obtain ⟨rfl, rfl, hcb⟩ := hcut
        have A1 := Lib.hid (A1.out.keep hcb)
        have A2 := Lib.hid (A2.out.keep hcb)
        have HB := Lib.hid (below_then HB.out hcb)
        clear hcb hly YB HY
        clear y0 y1 y2 y3 y4
        go_wp2_with fail
        refine (AL.out _).mono ?_
        rintro e w4 ⟨rfl, hb⟩
        have A1 := Lib.hid (A1.out.keep hb)
        have A2 := Lib.hid (A2.out.keep hb)
        have HB := Lib.hid (below_then HB.out hb)
        clear hb
        go_wp2_with fail
        refine (E1.out _ _ _ (A1.out.keep (by (repeat (first | (with_reducible exact Below.refl _ _) | (with_reducible assumption) | (with_reducible refine below_alloc ?_ _) | (with_reducible refine below_drewN ?_ _) | (with_reducible refine Below.drew ?_) | (with_reducible refine below_then ?_ (by with_reducible assumption)) | (with_reducible refine Below.setCell ?_ (by go_size) _))))) (SS.new1 w4 56 3 (by decide))).mono ?_
        rintro e w5 ⟨rfl, hb⟩
        have hb4 := below_then (show Below w4.heap.size w4 _ by (repeat (first | (with_reducible exact Below.refl _ _) | (with_reducible assumption) | (with_reducible refine below_alloc ?_ _) | (with_reducible refine below_drewN ?_ _) | (with_reducible refine Below.drew ?_) | (with_reducible refine below_then ?_ (by with_reducible assumption)) | (with_reducible refine Below.setCell ?_ (by go_size) _)))) hb
        have A2 := Lib.hid (A2.out.keep hb4)
        have HB := Lib.hid (below_then HB.out hb4)
        clear hb hb4
        go_wp2_with fail
        refine (E2.out _ _ _ (A2.out.keep (by (repeat (first | (with_reducible exact Below.refl _ _) | (with_reducible assumption) | (with_reducible refine below_alloc ?_ _) | (with_reducible refine below_drewN ?_ _) | (with_reducible refine Below.drew ?_) | (with_reducible refine below_then ?_ (by with_reducible assumption)) | (with_reducible refine Below.setCell ?_ (by go_size) _))))) (SS.new1 w5 56 1 (by decide))).mono ?_
        rintro e w6 ⟨rfl, hb⟩
        have HB := Lib.hid (below_then HB.out (below_then (show Below w5.heap.size w5 _ by (repeat (first | (with_reducible exact Below.refl _ _) | (with_reducible assumption) | (with_reducible refine below_alloc ?_ _) | (with_reducible refine below_drewN ?_ _) | (with_reducible refine Below.drew ?_) | (with_reducible refine below_then ?_ (by with_reducible assumption)) | (with_reducible refine Below.setCell ?_ (by go_size) _)))) hb))
        clear hb
        go_wp2_with fail
        go_returns
        exact ⟨rfl, HB.out⟩

set_option maxRecDepth 100000 in set_option maxHeartbeats 4000000 in
theorem lift_freeNames (os : Os) (started : os.Started) (H : Type) (enc : TypeId × Value → H) :
    ReturnsInHanded {} Tryz.checked os 4 .any (Rows.freeNamesSpec.pre6 enc Tryz.prog Tryz.f4 Rows.freeNamesRow.domain false) (Rows.freeNamesSpec.post enc Tryz.prog Tryz.f4 false true false false) := by
  refine returnsInHanded_of_change (C := Tryz.checked) ownKnob0 started (by kernel_rfl) Tryz.func4
    (ChangeSpec.witness6 (enc := enc) (C := Tryz.checked) false ⟨#[], #[], []⟩ 8 (by kernel_rfl) (by kernel_rfl) (by kernel_rfl) (by kernel_rfl)) ?_
  intro W base args ds gs before hval0 hW hcnd _
  have hval : ∀ (j : Nat) t v, Tryz.f4.params[j]? = some t → args[j]? = some v → Value.okWide Tryz.prog W .any base t v := hval0
  have hW' := hW
  obtain ⟨p, q, hA0, hV, rfl, hfz, hnd⟩ := hW
  have hA : DataW.TrodAll enc Tryz.prog W 0 (fun _ => true) true Tryz.f4.params.toList args.toList ds p := hA0
  rw [Tryz.params4] at hA hval
  have hK := hA
  obtain ⟨rfl, rfl, rfl⟩ := trodAll_none hA
  obtain ⟨rfl, rfl⟩ := trodVars_none hV
  clear hA0 hval0
  simp only [List.append_nil] at hW' hK
  refine (law11_FreeNames W).mono fun e W' ⟨he, bel⟩ => ?_
  subst he
  refine ⟨_, rfl, _, _, _, [], _, [], hW', trodAll_mk1 (shut_bool Tryz.underlying4 _), trodAll_below bel _ _ _ _ ?_ hK, rfl, bel.frame _, fun h => by cases h⟩
  intro t ht
  simp at ht <;> (rcases ht with rfl <;> exact ⟨by kernel_rfl, of_decide_eq_true (by kernel_rfl)⟩)

theorem holds_freeNames : Rows.freeNamesRow.holds Tryz.pinned (OpenSpec.ofChange Rows.freeNamesSpec) :=
  OpenClaim.holds_of_wide 4 Tryz.f4 rfl rfl rfl rfl rfl rfl rfl ⟨rfl, rfl, rfl, rfl, rfl⟩ rfl rfl rfl rfl rfl (by kernel_rfl) Tryz.func4 (by kernel_rfl)
    (of_decide_eq_true (by kernel_rfl)) (by unfold Func.isWrapper; first | (rw [if_pos (by decide +kernel)]; kernel_rfl) | (rw [if_neg (by decide +kernel)]; exact ⟨rfl, rfl⟩))
    (fun os started H enc _ => lift_freeNames os started H enc)

theorem FreeNames_holds : Rows.FreeNamesSaid := holds_freeNames
end
end Go.Proofs.YtofoenlhbmammaaGreat
