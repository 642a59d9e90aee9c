/- REF 13: a box grown as far as it goes: the document's. -/
import Derived.Deep.LoopGhost
import Derived.WalkMore
import Derived.Test.YtofoenlhbmammaaQ0RefGEG13
set_option linter.unusedVariables false
set_option linter.unusedSimpArgs false
namespace Go.Proofs.Ytofoenlhbmammaa

section
open Go.RowKit Go.Shelf

theorem ret_box2 {fn : Func} {tmps : Array Value} {a u : Tmp} {t : TypeId} {p : Addr} {v : Value} {w : World} {P : Program} (hf : fn.results = #[.cell a t, .tmp u]) (ht : tmps.getD a undef = .pointer (some p)) (hl : (loadVar t p).run P w = .ok v w) :
    (results fn tmps).run P w = .ok (.tuple #[v, tmps.getD u undef]) w := by
  have ht2 := ht
  simp only [Array.getD_eq_getD_getElem?] at ht2
  unfold results
  generalize loadVar = LL at hl ⊢
  simp [hf, ht, ht2, asAddr, go_sem, hl]
set_option maxRecDepth 100000 in set_option maxHeartbeats 4000000 in
theorem ref13_Grown_no (d : V3) (b : Bx) (bs : Option Addr) (cs : Nat) (ms : List Nat) (w : World) (hs : SetIn w bs ms) (hz : gnE d ms b ≠ 0) :
    Calls Try.prog 25 #[.agg #[.int .i64 d.x, .int .i64 d.y, .int .i64 d.z], .agg #[.int .i64 b.b.x, .int .i64 b.b.y, .int .i64 b.b.z, .int .i64 b.s.x, .int .i64 b.s.y, .int .i64 b.s.z], .slice bs ms.length cs] w (RB w (.tuple #[.agg #[.int .i64 Bx.zero.b.x, .int .i64 Bx.zero.b.y, .int .i64 Bx.zero.b.z, .int .i64 Bx.zero.s.x, .int .i64 Bx.zero.s.y, .int .i64 Bx.zero.s.z], .int .i64 (gnE d ms b)])) := by
  have HM := Lib.hid (fun W (h : Below w.heap.size w W) => ref13_may d bs cs ms W (hs.keep h))
  have HY := Lib.hid (fun W => ref02_May d b W)
  have HC := Lib.hid (fun W hd hb (h : Below w.heap.size w W) => ref13_Clear d b bs cs ms W hd hb (hs.keep h))
  have HE := Lib.hid (show gnE d ms b = if growE d ms = 0 then (if chk d b = 0 then (if clearS d ms b then 0 else 80) else chk d b) else growE d ms from rfl)
  have HG0 := Lib.hid (on_new w d b)
  have HZ := Lib.hid hz
  clear hs hz
  generalize gnE d ms b = E at *
  go_enter Try.func25, Try.ntmps25
  go_wp2_with fail
  refine (HM.out _ HG0.out.hb).mono ?_
  rintro e w1 ⟨rfl, hb⟩
  have T := Lib.hid (HG0.out.keep hb)
  clear hb HG0
  by_cases hg : growE d ms = 0
  · have HE := Lib.hid (HE.out.trans (if_pos hg))
    rw [decide_eq_true hg]
    have hd := (growE_0 hg).1
    have HD := Lib.hid hd
    clear hg
    (have d0 := T.out.d.cell 0 _ rfl; have d1 := T.out.d.cell 1 _ rfl; have d2 := T.out.d.cell 2 _ rfl; have dl := T.out.d.lt)
    (have b0 := T.out.b.cell 0 _ rfl; have b1 := T.out.b.cell 1 _ rfl; have b2 := T.out.b.cell 2 _ rfl; have b3 := T.out.b.cell 3 _ rfl; have b4 := T.out.b.cell 4 _ rfl; have b5 := T.out.b.cell 5 _ rfl; have bl := T.out.b.lt)
    go_wp2_with fail
    refine (HY.out _).mono ?_
    rintro e w2 ⟨rfl, hb⟩
    clear d0 d1 d2 dl
    clear b0 b1 b2 b3 b4 b5 bl
    have T := Lib.hid (T.out.keep hb)
    clear hb
    by_cases hm : b.may d
    · have HE := Lib.hid (HE.out.trans (if_pos (chk_of hd hm)))
      have HCm := Lib.hid (fun W (h : Below w.heap.size w W) => HC.out W hd hm h)
      rw [decide_eq_true hm]
      clear hm hd
      (have d0 := T.out.d.cell 0 _ rfl; have d1 := T.out.d.cell 1 _ rfl; have d2 := T.out.d.cell 2 _ rfl; have dl := T.out.d.lt)
      (have b0 := T.out.b.cell 0 _ rfl; have b1 := T.out.b.cell 1 _ rfl; have b2 := T.out.b.cell 2 _ rfl; have b3 := T.out.b.cell 3 _ rfl; have b4 := T.out.b.cell 4 _ rfl; have b5 := T.out.b.cell 5 _ rfl; have bl := T.out.b.lt)
      go_wp2_with fail
      refine (HCm.out _ T.out.hb).mono ?_
      rintro e w3 ⟨rfl, hb⟩
      clear d0 d1 d2 dl
      clear b0 b1 b2 b3 b4 b5 bl
      have T := Lib.hid (T.out.keep hb)
      clear hb
      cases hf : clearS d ms b with
      | true => exact absurd (HE.out.trans (if_pos hf)) HZ.out
      | false =>
        have he : E = 80 := HE.out.trans (by rw [hf]; rfl)
        subst he
        have HS := Lib.hid (((((((T.out.o).set 0 (.int .i64 0)).set 1 (.int .i64 0)).set 2 (.int .i64 0)).set 3 (.int .i64 0)).set 4 (.int .i64 0)).set 5 (.int .i64 0))
        have HB := Lib.hid ((((((((T.out.hb).setCell (p := ⟨(w.heap.size + 1 + 1), 0, none⟩) (show w.heap.size ≤ (w.heap.size + 1 + 1) by omega) (.int .i64 0)).setCell (p := ⟨(w.heap.size + 1 + 1), 1, none⟩) (show w.heap.size ≤ (w.heap.size + 1 + 1) by omega) (.int .i64 0)).setCell (p := ⟨(w.heap.size + 1 + 1), 2, none⟩) (show w.heap.size ≤ (w.heap.size + 1 + 1) by omega) (.int .i64 0)).setCell (p := ⟨(w.heap.size + 1 + 1), 3, none⟩) (show w.heap.size ≤ (w.heap.size + 1 + 1) by omega) (.int .i64 0)).setCell (p := ⟨(w.heap.size + 1 + 1), 4, none⟩) (show w.heap.size ≤ (w.heap.size + 1 + 1) by omega) (.int .i64 0)).setCell (p := ⟨(w.heap.size + 1 + 1), 5, none⟩) (show w.heap.size ≤ (w.heap.size + 1 + 1) by omega) (.int .i64 0)))
        (have o0 := (T.out.o).cell 0 _ rfl; have o1 := (T.out.o).cell 1 _ rfl; have o2 := (T.out.o).cell 2 _ rfl; have o3 := (T.out.o).cell 3 _ rfl; have o4 := (T.out.o).cell 4 _ rfl; have o5 := (T.out.o).cell 5 _ rfl; have f0 := (T.out.o).frozen 0; have f1 := (T.out.o).frozen 1; have f2 := (T.out.o).frozen 2; have f3 := (T.out.o).frozen 3; have f4 := (T.out.o).frozen 4; have f5 := (T.out.o).frozen 5; have ol := (T.out.o).lt)
        clear hf
        go_wp2_with fail
        (refine bodyPost_ret (ret_box2 Try.results25 rfl (ld_box (x := Bx.zero) HS.out)) rfl ?_)
        exact ⟨rfl, HB.out⟩
    · have he : E = 2 := HE.out.trans (by rw [chk_eq2 hd hm]; rfl)
      subst he
      rw [decide_eq_false hm]
      have HS := Lib.hid (((((((T.out.o).set 0 (.int .i64 0)).set 1 (.int .i64 0)).set 2 (.int .i64 0)).set 3 (.int .i64 0)).set 4 (.int .i64 0)).set 5 (.int .i64 0))
      have HB := Lib.hid ((((((((T.out.hb).setCell (p := ⟨(w.heap.size + 1 + 1), 0, none⟩) (show w.heap.size ≤ (w.heap.size + 1 + 1) by omega) (.int .i64 0)).setCell (p := ⟨(w.heap.size + 1 + 1), 1, none⟩) (show w.heap.size ≤ (w.heap.size + 1 + 1) by omega) (.int .i64 0)).setCell (p := ⟨(w.heap.size + 1 + 1), 2, none⟩) (show w.heap.size ≤ (w.heap.size + 1 + 1) by omega) (.int .i64 0)).setCell (p := ⟨(w.heap.size + 1 + 1), 3, none⟩) (show w.heap.size ≤ (w.heap.size + 1 + 1) by omega) (.int .i64 0)).setCell (p := ⟨(w.heap.size + 1 + 1), 4, none⟩) (show w.heap.size ≤ (w.heap.size + 1 + 1) by omega) (.int .i64 0)).setCell (p := ⟨(w.heap.size + 1 + 1), 5, none⟩) (show w.heap.size ≤ (w.heap.size + 1 + 1) by omega) (.int .i64 0)))
      (have o0 := (T.out.o).cell 0 _ rfl; have o1 := (T.out.o).cell 1 _ rfl; have o2 := (T.out.o).cell 2 _ rfl; have o3 := (T.out.o).cell 3 _ rfl; have o4 := (T.out.o).cell 4 _ rfl; have o5 := (T.out.o).cell 5 _ rfl; have f0 := (T.out.o).frozen 0; have f1 := (T.out.o).frozen 1; have f2 := (T.out.o).frozen 2; have f3 := (T.out.o).frozen 3; have f4 := (T.out.o).frozen 4; have f5 := (T.out.o).frozen 5; have ol := (T.out.o).lt)
      clear hm hd
      go_wp2_with fail
      (refine bodyPost_ret (ret_box2 Try.results25 rfl (ld_box (x := Bx.zero) HS.out)) rfl ?_)
      exact ⟨rfl, HB.out⟩
  · have he : E = 8 := HE.out.trans ((if_neg hg).trans ((growE_08 d ms).resolve_left hg))
    subst he
    rw [decide_eq_false hg]
    have HS := Lib.hid (((((((T.out.o).set 0 (.int .i64 0)).set 1 (.int .i64 0)).set 2 (.int .i64 0)).set 3 (.int .i64 0)).set 4 (.int .i64 0)).set 5 (.int .i64 0))
    have HB := Lib.hid ((((((((T.out.hb).setCell (p := ⟨(w.heap.size + 1 + 1), 0, none⟩) (show w.heap.size ≤ (w.heap.size + 1 + 1) by omega) (.int .i64 0)).setCell (p := ⟨(w.heap.size + 1 + 1), 1, none⟩) (show w.heap.size ≤ (w.heap.size + 1 + 1) by omega) (.int .i64 0)).setCell (p := ⟨(w.heap.size + 1 + 1), 2, none⟩) (show w.heap.size ≤ (w.heap.size + 1 + 1) by omega) (.int .i64 0)).setCell (p := ⟨(w.heap.size + 1 + 1), 3, none⟩) (show w.heap.size ≤ (w.heap.size + 1 + 1) by omega) (.int .i64 0)).setCell (p := ⟨(w.heap.size + 1 + 1), 4, none⟩) (show w.heap.size ≤ (w.heap.size + 1 + 1) by omega) (.int .i64 0)).setCell (p := ⟨(w.heap.size + 1 + 1), 5, none⟩) (show w.heap.size ≤ (w.heap.size + 1 + 1) by omega) (.int .i64 0)))
    (have o0 := (T.out.o).cell 0 _ rfl; have o1 := (T.out.o).cell 1 _ rfl; have o2 := (T.out.o).cell 2 _ rfl; have o3 := (T.out.o).cell 3 _ rfl; have o4 := (T.out.o).cell 4 _ rfl; have o5 := (T.out.o).cell 5 _ rfl; have f0 := (T.out.o).frozen 0; have f1 := (T.out.o).frozen 1; have f2 := (T.out.o).frozen 2; have f3 := (T.out.o).frozen 3; have f4 := (T.out.o).frozen 4; have f5 := (T.out.o).frozen 5; have ol := (T.out.o).lt)
    clear hg
    go_wp2_with fail
    (refine bodyPost_ret (ret_box2 Try.results25 rfl (ld_box (x := Bx.zero) HS.out)) rfl ?_)
    exact ⟨rfl, HB.out⟩
end
end Go.Proofs.Ytofoenlhbmammaa
