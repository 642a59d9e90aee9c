/- REF 13: a box grown as far as it goes: the document's, to its end. -/
import Derived.Test.YtofoenlhbmammaaQ0RefGFG13
set_option linter.unusedVariables false
set_option linter.unusedSimpArgs false
namespace Go.Proofs.Ytofoenlhbmammaa

section
open Go.RowKit Go.Shelf

theorem OnW.setB {w W : World} {d : V3} {x : Bx} (h : OnW w W d x) (c : Bx) : OnW w ((((((W.setCell ⟨w.heap.size + 1, 0, none⟩ (.int .i64 c.b.x)).setCell ⟨w.heap.size + 1, 1, none⟩ (.int .i64 c.b.y)).setCell ⟨w.heap.size + 1, 2, none⟩ (.int .i64 c.b.z)).setCell ⟨w.heap.size + 1, 3, none⟩ (.int .i64 c.s.x)).setCell ⟨w.heap.size + 1, 4, none⟩ (.int .i64 c.s.y)).setCell ⟨w.heap.size + 1, 5, none⟩ (.int .i64 c.s.z)) d c :=
  ⟨(((((((h.d).other (w.heap.size + 1) 0 (.int .i64 c.b.x) (by omega)).other (w.heap.size + 1) 1 (.int .i64 c.b.y) (by omega)).other (w.heap.size + 1) 2 (.int .i64 c.b.z) (by omega)).other (w.heap.size + 1) 3 (.int .i64 c.s.x) (by omega)).other (w.heap.size + 1) 4 (.int .i64 c.s.y) (by omega)).other (w.heap.size + 1) 5 (.int .i64 c.s.z) (by omega)), (((((((h.b).set 0 (.int .i64 c.b.x)).set 1 (.int .i64 c.b.y)).set 2 (.int .i64 c.b.z)).set 3 (.int .i64 c.s.x)).set 4 (.int .i64 c.s.y)).set 5 (.int .i64 c.s.z)), (((((((h.o).other (w.heap.size + 1) 0 (.int .i64 c.b.x) (by omega)).other (w.heap.size + 1) 1 (.int .i64 c.b.y) (by omega)).other (w.heap.size + 1) 2 (.int .i64 c.b.z) (by omega)).other (w.heap.size + 1) 3 (.int .i64 c.s.x) (by omega)).other (w.heap.size + 1) 4 (.int .i64 c.s.y) (by omega)).other (w.heap.size + 1) 5 (.int .i64 c.s.z) (by omega)), ((((((((h.hb).setCell (p := ⟨(w.heap.size + 1), 0, none⟩) (show w.heap.size ≤ (w.heap.size + 1) by omega) (.int .i64 c.b.x)).setCell (p := ⟨(w.heap.size + 1), 1, none⟩) (show w.heap.size ≤ (w.heap.size + 1) by omega) (.int .i64 c.b.y)).setCell (p := ⟨(w.heap.size + 1), 2, none⟩) (show w.heap.size ≤ (w.heap.size + 1) by omega) (.int .i64 c.b.z)).setCell (p := ⟨(w.heap.size + 1), 3, none⟩) (show w.heap.size ≤ (w.heap.size + 1) by omega) (.int .i64 c.s.x)).setCell (p := ⟨(w.heap.size + 1), 4, none⟩) (show w.heap.size ≤ (w.heap.size + 1) by omega) (.int .i64 c.s.y)).setCell (p := ⟨(w.heap.size + 1), 5, none⟩) (show w.heap.size ≤ (w.heap.size + 1) by omega) (.int .i64 c.s.z)))⟩
theorem OnW.setN {w W : World} {d : V3} {x : Bx} {n : Nat} (h : OnW w W d x) (hn : w.heap.size + 1 + 1 < n) (c : Bx) : OnW w ((((((W.setCell ⟨n, 0, none⟩ (.int .i64 c.b.x)).setCell ⟨n, 1, none⟩ (.int .i64 c.b.y)).setCell ⟨n, 2, none⟩ (.int .i64 c.b.z)).setCell ⟨n, 3, none⟩ (.int .i64 c.s.x)).setCell ⟨n, 4, none⟩ (.int .i64 c.s.y)).setCell ⟨n, 5, none⟩ (.int .i64 c.s.z)) d x :=
  ⟨(((((((h.d).other n 0 (.int .i64 c.b.x) (by omega)).other n 1 (.int .i64 c.b.y) (by omega)).other n 2 (.int .i64 c.b.z) (by omega)).other n 3 (.int .i64 c.s.x) (by omega)).other n 4 (.int .i64 c.s.y) (by omega)).other n 5 (.int .i64 c.s.z) (by omega)), (((((((h.b).other n 0 (.int .i64 c.b.x) (by omega)).other n 1 (.int .i64 c.b.y) (by omega)).other n 2 (.int .i64 c.b.z) (by omega)).other n 3 (.int .i64 c.s.x) (by omega)).other n 4 (.int .i64 c.s.y) (by omega)).other n 5 (.int .i64 c.s.z) (by omega)), (((((((h.o).other n 0 (.int .i64 c.b.x) (by omega)).other n 1 (.int .i64 c.b.y) (by omega)).other n 2 (.int .i64 c.b.z) (by omega)).other n 3 (.int .i64 c.s.x) (by omega)).other n 4 (.int .i64 c.s.y) (by omega)).other n 5 (.int .i64 c.s.z) (by omega)), ((((((((h.hb).setCell (p := ⟨n, 0, none⟩) (show w.heap.size ≤ n by omega) (.int .i64 c.b.x)).setCell (p := ⟨n, 1, none⟩) (show w.heap.size ≤ n by omega) (.int .i64 c.b.y)).setCell (p := ⟨n, 2, none⟩) (show w.heap.size ≤ n by omega) (.int .i64 c.b.z)).setCell (p := ⟨n, 3, none⟩) (show w.heap.size ≤ n by omega) (.int .i64 c.s.x)).setCell (p := ⟨n, 4, none⟩) (show w.heap.size ≤ n by omega) (.int .i64 c.s.y)).setCell (p := ⟨n, 5, none⟩) (show w.heap.size ≤ n by omega) (.int .i64 c.s.z)))⟩
set_option maxRecDepth 100000 in set_option maxHeartbeats 4000000 in
theorem ref13_Grown_ok (d : V3) (b : Bx) (bs : Option Addr) (cs : Nat) (ms : List Nat) (w : World) (R : Bx) (hs : SetIn w bs ms) (hz : growE d ms = 0) (hm : b.may d) (hf : clearS d ms b = true) (hR : growTo d ms 5000 (b.can d) = R) :
    Calls Try.prog 25 #[.agg #[.int .i64 d.x, .int .i64 d.y, .int .i64 d.z], .agg #[.int .i64 b.b.x, .int .i64 b.b.y, .int .i64 b.b.z, .int .i64 b.s.x, .int .i64 b.s.y, .int .i64 b.s.z], .slice bs ms.length cs] w (RB w (.tuple #[.agg #[.int .i64 R.b.x, .int .i64 R.b.y, .int .i64 R.b.z, .int .i64 R.s.x, .int .i64 R.s.y, .int .i64 R.s.z], .int .i64 0])) := by
  have hd := (growE_0 hz).1
  have HM := Lib.hid (fun W (h : Below w.heap.size w W) => by have q := ref13_may d bs cs ms W (hs.keep h); rw [decide_eq_true hz] at q; exact q)
  have HY := Lib.hid (fun W => by have q := ref02_May d b W; rw [decide_eq_true hm] at q; exact q)
  have HC := Lib.hid (fun W (h : Below w.heap.size w W) => by have q := ref13_Clear d b bs cs ms W hd hm (hs.keep h); rw [hf] at q; exact q)
  have HT := Lib.hid (fun W => ref02_Told d b W)
  have HON := Lib.hid (fun (x : Bx) (hx : x.may d) W (h : Below w.heap.size w W) => ref13_once d x bs cs ms W _ hd hx (hs.keep h) rfl)
  have hisC : (b.can d).isC d := can_isC hm
  have hcl : clearS d ms (b.can d) = true := by rw [clear_can hd hm]; exact hf
  have hvol := vol_le hd hisC.1
  have hgd : Try.prog.eqGuardType Try.prog.depth 27 = false := by kernel_rfl
  generalize b.can d = c at *
  have HG0 := Lib.hid (on_new w d b)
  have HD := Lib.hid hd
  have HI := Lib.hid (And.intro hisC hcl)
  have HR := Lib.hid hR
  clear hs hz hm hf hd hisC hcl hR
  go_enter Try.func25, Try.ntmps25
  go_wp2_with fail
  refine (HM.out _ HG0.out.hb).mono ?_
  rintro e w1 ⟨rfl, hb⟩
  have T := Lib.hid (HG0.out.keep hb)
  clear hb HG0
  (have d0 := T.out.d.cell 0 _ rfl; have d1 := T.out.d.cell 1 _ rfl; have d2 := T.out.d.cell 2 _ rfl; have dl := T.out.d.lt)
  (have b0 := T.out.b.cell 0 _ rfl; have b1 := T.out.b.cell 1 _ rfl; have b2 := T.out.b.cell 2 _ rfl; have b3 := T.out.b.cell 3 _ rfl; have b4 := T.out.b.cell 4 _ rfl; have b5 := T.out.b.cell 5 _ rfl; have bl := T.out.b.lt)
  go_wp2_with fail
  refine (HY.out _).mono ?_
  rintro e w2 ⟨rfl, hb⟩
  clear d0 d1 d2 dl
  clear b0 b1 b2 b3 b4 b5 bl
  have T := Lib.hid (T.out.keep hb)
  clear hb
  (have d0 := T.out.d.cell 0 _ rfl; have d1 := T.out.d.cell 1 _ rfl; have d2 := T.out.d.cell 2 _ rfl; have dl := T.out.d.lt)
  (have b0 := T.out.b.cell 0 _ rfl; have b1 := T.out.b.cell 1 _ rfl; have b2 := T.out.b.cell 2 _ rfl; have b3 := T.out.b.cell 3 _ rfl; have b4 := T.out.b.cell 4 _ rfl; have b5 := T.out.b.cell 5 _ rfl; have bl := T.out.b.lt)
  go_wp2_with fail
  refine (HC.out _ T.out.hb).mono ?_
  rintro e w3 ⟨rfl, hb⟩
  clear d0 d1 d2 dl
  clear b0 b1 b2 b3 b4 b5 bl
  have T := Lib.hid (T.out.keep hb)
  clear hb
  (have d0 := T.out.d.cell 0 _ rfl; have d1 := T.out.d.cell 1 _ rfl; have d2 := T.out.d.cell 2 _ rfl; have dl := T.out.d.lt)
  (have b0 := T.out.b.cell 0 _ rfl; have b1 := T.out.b.cell 1 _ rfl; have b2 := T.out.b.cell 2 _ rfl; have b3 := T.out.b.cell 3 _ rfl; have b4 := T.out.b.cell 4 _ rfl; have b5 := T.out.b.cell 5 _ rfl; have bl := T.out.b.lt)
  go_wp2_with fail
  refine (HT.out _).mono ?_
  rintro e w4 ⟨rfl, hb⟩
  clear d0 d1 d2 dl
  clear b0 b1 b2 b3 b4 b5 bl
  have T := Lib.hid (T.out.keep hb)
  clear hb HM HY HC HT
  have TS := Lib.hid (T.out.setB c)
  (have d0 := T.out.d.cell 0 _ rfl; have d1 := T.out.d.cell 1 _ rfl; have d2 := T.out.d.cell 2 _ rfl; have dl := T.out.d.lt)
  (have p0 := (T.out.b).cell 0 _ rfl; have p1 := (T.out.b).cell 1 _ rfl; have p2 := (T.out.b).cell 2 _ rfl; have p3 := (T.out.b).cell 3 _ rfl; have p4 := (T.out.b).cell 4 _ rfl; have p5 := (T.out.b).cell 5 _ rfl; have q0 := (T.out.b).frozen 0; have q1 := (T.out.b).frozen 1; have q2 := (T.out.b).frozen 2; have q3 := (T.out.b).frozen 3; have q4 := (T.out.b).frozen 4; have q5 := (T.out.b).frozen 5; have pl := (T.out.b).lt)
  go_upto_region 8 with fail
  obtain ⟨wc, hwc⟩ : ∃ wc, wc = ((((((w4.setCell ⟨w.heap.size + 1, 0, none⟩ (.int .i64 c.b.x)).setCell ⟨w.heap.size + 1, 1, none⟩ (.int .i64 c.b.y)).setCell ⟨w.heap.size + 1, 2, none⟩ (.int .i64 c.b.z)).setCell ⟨w.heap.size + 1, 3, none⟩ (.int .i64 c.s.x)).setCell ⟨w.heap.size + 1, 4, none⟩ (.int .i64 c.s.y)).setCell ⟨w.heap.size + 1, 5, none⟩ (.int .i64 c.s.z)) := ⟨_, rfl⟩
  rw [← hwc] at TS ⊢
  clear hwc T d0 d1 d2 dl p0 p1 p2 p3 p4 p5 q0 q1 q2 q3 q4 q5 pl
  have T := TS
  clear TS
  (have d0 := T.out.d.cell 0 _ rfl; have d1 := T.out.d.cell 1 _ rfl; have d2 := T.out.d.cell 2 _ rfl; have dl := T.out.d.lt)
  (have b0 := T.out.b.cell 0 _ rfl; have b1 := T.out.b.cell 1 _ rfl; have b2 := T.out.b.cell 2 _ rfl; have b3 := T.out.b.cell 3 _ rfl; have b4 := T.out.b.cell 4 _ rfl; have b5 := T.out.b.cell 5 _ rfl; have bl := T.out.b.lt)
  go_wp2_with fail
  refine (HON.out c HI.out.1.1 _ T.out.hb).mono ?_
  rintro e w5 ⟨rfl, hb⟩
  clear d0 d1 d2 dl
  clear b0 b1 b2 b3 b4 b5 bl
  have T := Lib.hid (T.out.keep hb)
  clear hb
  obtain ⟨y, hy⟩ : ∃ y, y = (nextJ d ms c).getD c := ⟨_, rfl⟩
  rw [← hy]
  have HYc := Lib.hid hy
  clear hy
  have hT5 : w.heap.size + 1 + 1 < w5.heap.size := T.out.o.lt
  have HB5 := Lib.hid (Blk.new w5 27 #[.int .i64 y.b.x, .int .i64 y.b.y, .int .i64 y.b.z, .int .i64 y.s.x, .int .i64 y.s.y, .int .i64 y.s.z])
  have T := Lib.hid (T.out.keep (below_alloc (Below.refl _ _) (.cells #[.int .i64 y.b.x, .int .i64 y.b.y, .int .i64 y.b.z, .int .i64 y.s.x, .int .i64 y.s.y, .int .i64 y.s.z] 27)))
  go_wp2_with fail
  go_loopg [8] 4096 (fun gg s8 wr => ∃ (x : Bx) (f cB : Nat), s8 = .pointer (some ⟨cB, 0, none⟩) ∧ (x.isC d ∧ clearS d ms x = true) ∧ growTo d ms f x = R ∧ 4098 ≤ (f : Int) + x.vol ∧ 4096 - x.vol.toNat ≤ gg ∧ OnW w wr d x ∧ Blk wr cB 27 #[.int .i64 ((nextJ d ms x).getD x).b.x, .int .i64 ((nextJ d ms x).getD x).b.y, .int .i64 ((nextJ d ms x).getD x).b.z, .int .i64 ((nextJ d ms x).getD x).s.x, .int .i64 ((nextJ d ms x).getD x).s.y, .int .i64 ((nextJ d ms x).getD x).s.z] ∧ w.heap.size + 1 + 1 < cB)
  case atStart => exact ⟨c, 5000, w5.heap.size, rfl, HI.out, HR.out, by omega, by omega, T.out, by rw [← HYc.out]; exact HB5.out, hT5⟩
  case round =>
    clear T HB5 HYc HI HR hvol
    obtain ⟨x, f, cB, rfl, hx, hgt, hfv, hgg, hG, hcB, hlt⟩ := hrel
    have HX := Lib.hid hx
    have HT := Lib.hid hgt
    have T := Lib.hid hG
    have HCB := Lib.hid hcB
    have hV := vol_le HD.out hx.1.1
    clear hx hgt hG hcB
    cases hn : nextJ d ms x with
    | none =>
      have hRx := Lib.hid ((growTo_none hn f).symm.trans HT.out)
      have HCx := Lib.hid (show Blk wr cB 27 #[.int .i64 x.b.x, .int .i64 x.b.y, .int .i64 x.b.z, .int .i64 x.s.x, .int .i64 x.s.y, .int .i64 x.s.z] by have q := HCB.out; rw [hn] at q; exact q)
      have heq : ∀ w, (binOp .neq 27 (.agg #[.int .i64 x.b.x, .int .i64 x.b.y, .int .i64 x.b.z, .int .i64 x.s.x, .int .i64 x.s.y, .int .i64 x.s.z]) (.agg #[.int .i64 x.b.x, .int .i64 x.b.y, .int .i64 x.b.z, .int .i64 x.s.x, .int .i64 x.s.y, .int .i64 x.s.z])).run Try.prog w = .ok (.bool false) w := fun w => by rw [run_neq_box, decide_eq_true rfl]; rfl
      have HS := Lib.hid (((((((T.out.o).set 0 (.int .i64 x.b.x)).set 1 (.int .i64 x.b.y)).set 2 (.int .i64 x.b.z)).set 3 (.int .i64 x.s.x)).set 4 (.int .i64 x.s.y)).set 5 (.int .i64 x.s.z))
      have HB := Lib.hid ((((((((T.out.hb).setCell (p := ⟨(w.heap.size + 1 + 1), 0, none⟩) (show w.heap.size ≤ (w.heap.size + 1 + 1) by omega) (.int .i64 x.b.x)).setCell (p := ⟨(w.heap.size + 1 + 1), 1, none⟩) (show w.heap.size ≤ (w.heap.size + 1 + 1) by omega) (.int .i64 x.b.y)).setCell (p := ⟨(w.heap.size + 1 + 1), 2, none⟩) (show w.heap.size ≤ (w.heap.size + 1 + 1) by omega) (.int .i64 x.b.z)).setCell (p := ⟨(w.heap.size + 1 + 1), 3, none⟩) (show w.heap.size ≤ (w.heap.size + 1 + 1) by omega) (.int .i64 x.s.x)).setCell (p := ⟨(w.heap.size + 1 + 1), 4, none⟩) (show w.heap.size ≤ (w.heap.size + 1 + 1) by omega) (.int .i64 x.s.y)).setCell (p := ⟨(w.heap.size + 1 + 1), 5, none⟩) (show w.heap.size ≤ (w.heap.size + 1 + 1) by omega) (.int .i64 x.s.z)))
      clear hn HCB
      (have o0 := (T.out.o).cell 0 _ rfl; have o1 := (T.out.o).cell 1 _ rfl; have o2 := (T.out.o).cell 2 _ rfl; have o3 := (T.out.o).cell 3 _ rfl; have o4 := (T.out.o).cell 4 _ rfl; have o5 := (T.out.o).cell 5 _ rfl; have f0 := (T.out.o).frozen 0; have f1 := (T.out.o).frozen 1; have f2 := (T.out.o).frozen 2; have f3 := (T.out.o).frozen 3; have f4 := (T.out.o).frozen 4; have f5 := (T.out.o).frozen 5; have ol := (T.out.o).lt)
      (have c0 := (HCx.out).cell 0 _ rfl; have c1 := (HCx.out).cell 1 _ rfl; have c2 := (HCx.out).cell 2 _ rfl; have c3 := (HCx.out).cell 3 _ rfl; have c4 := (HCx.out).cell 4 _ rfl; have c5 := (HCx.out).cell 5 _ rfl; have g0 := (HCx.out).frozen 0; have g1 := (HCx.out).frozen 1; have g2 := (HCx.out).frozen 2; have g3 := (HCx.out).frozen 3; have g4 := (HCx.out).frozen 4; have g5 := (HCx.out).frozen 5; have cl := (HCx.out).lt)
      (have b0 := T.out.b.cell 0 _ rfl; have b1 := T.out.b.cell 1 _ rfl; have b2 := T.out.b.cell 2 _ rfl; have b3 := T.out.b.cell 3 _ rfl; have b4 := T.out.b.cell 4 _ rfl; have b5 := T.out.b.cell 5 _ rfl; have bl := T.out.b.lt)
      go_wp2_with fail
      (refine bodyPost_ret (ret_box2 Try.results25 rfl (ld_box (x := x) HS.out)) rfl ?_)
      exact ⟨by rw [← hRx.out]; rfl, HB.out⟩
    | some y =>
      obtain ⟨j, hj, hok, hyj⟩ := nextJ_some hn
      obtain ⟨v1, v2, v3⟩ := okJ_vol HD.out HX.out.1.1 hj hok
      rw [← hyj] at v1 v2 v3
      have hne : ¬ y = x := fun e => by rw [e] at v3; omega
      have hv4 := vol_le HD.out v1.1
      obtain ⟨f', rfl⟩ : ∃ f', f = f' + 1 := ⟨f - 1, by omega⟩
      have HT2 := Lib.hid ((growTo_some hn f').symm.trans HT.out)
      have HV2 := Lib.hid (And.intro v1 v2)
      have HCy := Lib.hid (show Blk wr cB 27 #[.int .i64 y.b.x, .int .i64 y.b.y, .int .i64 y.b.z, .int .i64 y.s.x, .int .i64 y.s.y, .int .i64 y.s.z] by have q := HCB.out; rw [hn] at q; exact q)
      have heq : ∀ w, (binOp .neq 27 (.agg #[.int .i64 y.b.x, .int .i64 y.b.y, .int .i64 y.b.z, .int .i64 y.s.x, .int .i64 y.s.y, .int .i64 y.s.z]) (.agg #[.int .i64 x.b.x, .int .i64 x.b.y, .int .i64 x.b.z, .int .i64 x.s.x, .int .i64 x.s.y, .int .i64 x.s.z])).run Try.prog w = .ok (.bool true) w := fun w => by rw [run_neq_box, decide_eq_false hne]; rfl
      have TS := Lib.hid (T.out.setB y)
      have HCS := Lib.hid (((((((HCy.out).other (w.heap.size + 1) 0 (.int .i64 y.b.x) (by omega)).other (w.heap.size + 1) 1 (.int .i64 y.b.y) (by omega)).other (w.heap.size + 1) 2 (.int .i64 y.b.z) (by omega)).other (w.heap.size + 1) 3 (.int .i64 y.s.x) (by omega)).other (w.heap.size + 1) 4 (.int .i64 y.s.y) (by omega)).other (w.heap.size + 1) 5 (.int .i64 y.s.z) (by omega))
      clear hn HCB hok hyj v1 v2 hne HT HX
      (have p0 := (T.out.b).cell 0 _ rfl; have p1 := (T.out.b).cell 1 _ rfl; have p2 := (T.out.b).cell 2 _ rfl; have p3 := (T.out.b).cell 3 _ rfl; have p4 := (T.out.b).cell 4 _ rfl; have p5 := (T.out.b).cell 5 _ rfl; have q0 := (T.out.b).frozen 0; have q1 := (T.out.b).frozen 1; have q2 := (T.out.b).frozen 2; have q3 := (T.out.b).frozen 3; have q4 := (T.out.b).frozen 4; have q5 := (T.out.b).frozen 5; have pl := (T.out.b).lt)
      (have c0 := (HCy.out).cell 0 _ rfl; have c1 := (HCy.out).cell 1 _ rfl; have c2 := (HCy.out).cell 2 _ rfl; have c3 := (HCy.out).cell 3 _ rfl; have c4 := (HCy.out).cell 4 _ rfl; have c5 := (HCy.out).cell 5 _ rfl; have g0 := (HCy.out).frozen 0; have g1 := (HCy.out).frozen 1; have g2 := (HCy.out).frozen 2; have g3 := (HCy.out).frozen 3; have g4 := (HCy.out).frozen 4; have g5 := (HCy.out).frozen 5; have cl := (HCy.out).lt)
      go_upto_region 12 with fail
      obtain ⟨wc, hwc⟩ : ∃ wc, wc = ((((((wr.setCell ⟨w.heap.size + 1, 0, none⟩ (.int .i64 y.b.x)).setCell ⟨w.heap.size + 1, 1, none⟩ (.int .i64 y.b.y)).setCell ⟨w.heap.size + 1, 2, none⟩ (.int .i64 y.b.z)).setCell ⟨w.heap.size + 1, 3, none⟩ (.int .i64 y.s.x)).setCell ⟨w.heap.size + 1, 4, none⟩ (.int .i64 y.s.y)).setCell ⟨w.heap.size + 1, 5, none⟩ (.int .i64 y.s.z)) := ⟨_, rfl⟩
      rw [← hwc] at TS HCS ⊢
      clear hwc T HCy p0 p1 p2 p3 p4 p5 q0 q1 q2 q3 q4 q5 pl c0 c1 c2 c3 c4 c5 g0 g1 g2 g3 g4 g5 cl
      have T := TS
      clear TS
      have hol := T.out.o.lt
      have HN := Lib.hid (Blk.new wc 27 #[.int .i64 y.b.x, .int .i64 y.b.y, .int .i64 y.b.z, .int .i64 y.s.x, .int .i64 y.s.y, .int .i64 y.s.z])
      have TN := Lib.hid (T.out.keep (below_alloc (Below.refl _ _) (.cells #[.int .i64 y.b.x, .int .i64 y.b.y, .int .i64 y.b.z, .int .i64 y.s.x, .int .i64 y.s.y, .int .i64 y.s.z] 27)))
      have c0 := HCS.out.cell 0 _ rfl
      have c1 := HCS.out.cell 1 _ rfl
      have c2 := HCS.out.cell 2 _ rfl
      have c3 := HCS.out.cell 3 _ rfl
      have c4 := HCS.out.cell 4 _ rfl
      have c5 := HCS.out.cell 5 _ rfl
      have cl := HCS.out.lt
      go_upto_region 10 with fail
      obtain ⟨wd, hwd⟩ : ∃ wd, wd = wc.alloc (.cells #[.int .i64 y.b.x, .int .i64 y.b.y, .int .i64 y.b.z, .int .i64 y.s.x, .int .i64 y.s.y, .int .i64 y.s.z] 27) := ⟨_, rfl⟩
      rw [← hwd] at TN HN ⊢
      clear hwd T HCS c0 c1 c2 c3 c4 c5 cl
      generalize wc.heap.size = nB at *
      have T := TN
      clear TN
      (have d0 := T.out.d.cell 0 _ rfl; have d1 := T.out.d.cell 1 _ rfl; have d2 := T.out.d.cell 2 _ rfl; have dl := T.out.d.lt)
      (have b0 := T.out.b.cell 0 _ rfl; have b1 := T.out.b.cell 1 _ rfl; have b2 := T.out.b.cell 2 _ rfl; have b3 := T.out.b.cell 3 _ rfl; have b4 := T.out.b.cell 4 _ rfl; have b5 := T.out.b.cell 5 _ rfl; have bl := T.out.b.lt)
      go_wp2_with fail
      refine (HON.out y HV2.out.1.1 _ T.out.hb).mono ?_
      rintro e w6 ⟨rfl, hb⟩
      clear d0 d1 d2 dl
      clear b0 b1 b2 b3 b4 b5 bl
      have T := Lib.hid (T.out.keep hb)
      have HN := Lib.hid (HN.out.below hb)
      clear hb
      obtain ⟨z, hz⟩ : ∃ z, z = (nextJ d ms y).getD y := ⟨_, rfl⟩
      rw [← hz]
      have HZ := Lib.hid hz
      clear hz
      (have p0 := (HN.out).cell 0 _ rfl; have p1 := (HN.out).cell 1 _ rfl; have p2 := (HN.out).cell 2 _ rfl; have p3 := (HN.out).cell 3 _ rfl; have p4 := (HN.out).cell 4 _ rfl; have p5 := (HN.out).cell 5 _ rfl; have q0 := (HN.out).frozen 0; have q1 := (HN.out).frozen 1; have q2 := (HN.out).frozen 2; have q3 := (HN.out).frozen 3; have q4 := (HN.out).frozen 4; have q5 := (HN.out).frozen 5; have pl := (HN.out).lt)
      have HN2 := Lib.hid (((((((HN.out).set 0 (.int .i64 z.b.x)).set 1 (.int .i64 z.b.y)).set 2 (.int .i64 z.b.z)).set 3 (.int .i64 z.s.x)).set 4 (.int .i64 z.s.y)).set 5 (.int .i64 z.s.z))
      have T2 := Lib.hid (T.out.setN hol z)
      go_wp2_with fail
      go_roundg (4096 - y.vol.toNat)
      case measure => omega
      case rel => exact ⟨y, f', nB, rfl, HV2.out, HT2.out, by omega, Nat.le_refl _, T2.out, by rw [← HZ.out]; exact HN2.out, hol⟩
theorem ref13_Grown (d : V3) (b : Bx) (bs : Option Addr) (cs : Nat) (ms : List Nat) (w : World) (hs : SetIn w bs ms) :
    Calls Try.prog 25 #[.agg #[.int .i64 d.x, .int .i64 d.y, .int .i64 d.z], .agg #[.int .i64 b.b.x, .int .i64 b.b.y, .int .i64 b.b.z, .int .i64 b.s.x, .int .i64 b.s.y, .int .i64 b.s.z], .slice bs ms.length cs] w (RB w (.tuple #[.agg #[.int .i64 (gnV d ms b).b.x, .int .i64 (gnV d ms b).b.y, .int .i64 (gnV d ms b).b.z, .int .i64 (gnV d ms b).s.x, .int .i64 (gnV d ms b).s.y, .int .i64 (gnV d ms b).s.z], .int .i64 (gnE d ms b)])) := by
  by_cases h : gnE d ms b = 0
  · have hv : gnV d ms b = growTo d ms 5000 (b.can d) := if_pos h
    rw [h, hv]
    unfold gnE at h
    by_cases hz : growE d ms = 0
    · rw [if_pos hz] at h
      by_cases hc : chk d b = 0
      · rw [if_pos hc] at h
        cases hf : clearS d ms b with
        | true => exact ref13_Grown_ok d b bs cs ms w _ hs hz (chk_may hc).2 hf rfl
        | false => rw [hf] at h; cases h
      · rw [if_neg hc] at h; exact absurd h hc
    · rw [if_neg hz] at h; exact absurd h hz
  · have hv : gnV d ms b = Bx.zero := if_neg h
    rw [hv]
    exact ref13_Grown_no d b bs cs ms w hs h
end
end Go.Proofs.Ytofoenlhbmammaa
