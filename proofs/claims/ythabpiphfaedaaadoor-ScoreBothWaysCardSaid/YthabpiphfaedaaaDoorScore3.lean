/- SCORE: the check of dimensions and two sets; how many open sides, or the error. -/
import Derived.Test.YthabpiphfaedaaaDoorScore2
import Derived.Test.YthabpiphfaedaaaDoorPosW2
import Derived.Test.YthabpiphfaedaaaDoorSet2
namespace Go.Proofs.YthabpiphfaedaaaDoor
open Go.RowKit Go.Shelf

set_option maxRecDepth 100000 in set_option maxHeartbeats 4000000 in
theorem score_checked2 (d : V3) (ba bb : Option Addr) (ca cb : Nat) (a b : List Nat) (w : World) (B : Nat) (ha : SetIn w ba a) (hb : SetIn w bb b)
    (h0 : w.cell? ⟨B, 0, none⟩ = some (.slice ba a.length ca)) (h1 : w.cell? ⟨B, 1, none⟩ = some (.slice bb b.length cb)) :
    Calls Tryd.prog 56 #[.agg #[.int .i64 d.x, .int .i64 d.y, .int .i64 d.z], .slice (some ⟨B, 0, none⟩) 2 2] w (RB w (.tuple #[.int .i64 d.many, .int .i64 (openE d a b)])) := by
  have HA := Lib.hid (fun W (hw : Below w.heap.size w W) => set_Check d.n ba ca a W (ha.keep hw).rd ha.len ha.fit)
  have HB := Lib.hid (fun W (hw : Below w.heap.size w W) => set_Check d.n bb cb b W (hb.keep hw).rd hb.len hb.fit)
  have HM := Lib.hid (fun W => pos_Many d W)
  have HE := Lib.hid (show openE d a b = if d.may then (if sChk d.n a = 0 then (if sChk d.n b = 0 then 0 else 8) else 8) else 8 from rfl)
  have H0 := Lib.hid (fun W (hw : Below w.heap.size w W) => (hw.cell (p := ⟨B, 0, none⟩) (World.block_lt_of_cell? w ⟨B, 0, none⟩ h0)).trans h0)
  have H1 := Lib.hid (fun W (hw : Below w.heap.size w W) => (hw.cell (p := ⟨B, 1, none⟩) (World.block_lt_of_cell? w ⟨B, 1, none⟩ h1)).trans h1)
  clear ha hb h0 h1
  by_cases hd : d.may
  · have hm : d.many = d.n := V3.many_ok hd
    rw [hm, V3.err_ok hd] at HM
    rw [if_pos hd] at HE
    rw [hm]
    clear hm hd
    by_cases hz : sChk d.n a = 0
    · rw [if_pos hz] at HE
      rw [hz] at HA
      clear hz
      by_cases hy : sChk d.n b = 0
      · rw [if_pos hy] at HE
        rw [hy] at HB
        clear hy
        go_enter Tryd.func56, Tryd.ntmps56
        go_wp2_with ((with_reducible refine (HM.out _).mono ?_); rintro e w1 ⟨rfl, hb1⟩; (obtain ⟨hc1, hf1⟩ := bcell hb1; have hz1 := hb1.size; (try simp at hz1); have hB : Below w.heap.size w w1 := (by (repeat (first | (with_reducible exact Below.refl _ _) | (with_reducible assumption) | (with_reducible refine below_alloc ?_ _) | (with_reducible refine below_drewN ?_ _) | (with_reducible refine Below.drew ?_) | (with_reducible refine below_then ?_ (by with_reducible assumption)) | (with_reducible refine Below.setCell ?_ (by go_size) _)))); obtain ⟨hcB, hfB⟩ := bcell hB; (try have z0 : w.heap.size < w1.heap.size := by omega); (try have z1 : w.heap.size + 1 < w1.heap.size := by omega); (try have z2 : w.heap.size + 2 < w1.heap.size := by omega); (try have z3 : w.heap.size + 3 < w1.heap.size := by omega)))
        have c0 := H0.out w1 hB
        have c1 := H1.out w1 hB
        refine wp_loop_rounds 3 ?_
        rw [rounds_succ]
        go_wp2_with (first | ((with_reducible refine (HA.out _ (by (repeat (first | (with_reducible exact Below.refl _ _) | (with_reducible assumption) | (with_reducible refine below_alloc ?_ _) | (with_reducible refine below_drewN ?_ _) | (with_reducible refine Below.drew ?_) | (with_reducible refine below_then ?_ (by with_reducible assumption)) | (with_reducible refine Below.setCell ?_ (by go_size) _))))).mono ?_); rintro e w3 ⟨rfl, hw3⟩; have hw3 := hw3.symm; subst hw3) | ((with_reducible refine (HB.out _ (by (repeat (first | (with_reducible exact Below.refl _ _) | (with_reducible assumption) | (with_reducible refine below_alloc ?_ _) | (with_reducible refine below_drewN ?_ _) | (with_reducible refine Below.drew ?_) | (with_reducible refine below_then ?_ (by with_reducible assumption)) | (with_reducible refine Below.setCell ?_ (by go_size) _))))).mono ?_); rintro e w3 ⟨rfl, hw3⟩; have hw3 := hw3.symm; subst hw3))
        rw [rounds_succ]
        go_wp2_with (first | ((with_reducible refine (HA.out _ (by (repeat (first | (with_reducible exact Below.refl _ _) | (with_reducible assumption) | (with_reducible refine below_alloc ?_ _) | (with_reducible refine below_drewN ?_ _) | (with_reducible refine Below.drew ?_) | (with_reducible refine below_then ?_ (by with_reducible assumption)) | (with_reducible refine Below.setCell ?_ (by go_size) _))))).mono ?_); rintro e w3 ⟨rfl, hw3⟩; have hw3 := hw3.symm; subst hw3) | ((with_reducible refine (HB.out _ (by (repeat (first | (with_reducible exact Below.refl _ _) | (with_reducible assumption) | (with_reducible refine below_alloc ?_ _) | (with_reducible refine below_drewN ?_ _) | (with_reducible refine Below.drew ?_) | (with_reducible refine below_then ?_ (by with_reducible assumption)) | (with_reducible refine Below.setCell ?_ (by go_size) _))))).mono ?_); rintro e w3 ⟨rfl, hw3⟩; have hw3 := hw3.symm; subst hw3))
        rw [rounds_succ]
        go_wp2_with fail
        go_returns
        exact ⟨by rw [HE.out]; rfl, hB⟩
      · rw [if_neg hy] at HE
        have hy1 : (sChk d.n b == 0) = false := by simpa using hy
        have hy2 : (sChk d.n b != 0) = true := by simpa using hy
        clear hy
        go_enter Tryd.func56, Tryd.ntmps56
        go_wp2_with ((with_reducible refine (HM.out _).mono ?_); rintro e w1 ⟨rfl, hb1⟩; (obtain ⟨hc1, hf1⟩ := bcell hb1; have hz1 := hb1.size; (try simp at hz1); have hB : Below w.heap.size w w1 := (by (repeat (first | (with_reducible exact Below.refl _ _) | (with_reducible assumption) | (with_reducible refine below_alloc ?_ _) | (with_reducible refine below_drewN ?_ _) | (with_reducible refine Below.drew ?_) | (with_reducible refine below_then ?_ (by with_reducible assumption)) | (with_reducible refine Below.setCell ?_ (by go_size) _)))); obtain ⟨hcB, hfB⟩ := bcell hB; (try have z0 : w.heap.size < w1.heap.size := by omega); (try have z1 : w.heap.size + 1 < w1.heap.size := by omega); (try have z2 : w.heap.size + 2 < w1.heap.size := by omega); (try have z3 : w.heap.size + 3 < w1.heap.size := by omega)))
        have c0 := H0.out w1 hB
        have c1 := H1.out w1 hB
        refine wp_loop_rounds 3 ?_
        rw [rounds_succ]
        go_wp2_with (first | ((with_reducible refine (HA.out _ (by (repeat (first | (with_reducible exact Below.refl _ _) | (with_reducible assumption) | (with_reducible refine below_alloc ?_ _) | (with_reducible refine below_drewN ?_ _) | (with_reducible refine Below.drew ?_) | (with_reducible refine below_then ?_ (by with_reducible assumption)) | (with_reducible refine Below.setCell ?_ (by go_size) _))))).mono ?_); rintro e w3 ⟨rfl, hw3⟩; have hw3 := hw3.symm; subst hw3) | ((with_reducible refine (HB.out _ (by (repeat (first | (with_reducible exact Below.refl _ _) | (with_reducible assumption) | (with_reducible refine below_alloc ?_ _) | (with_reducible refine below_drewN ?_ _) | (with_reducible refine Below.drew ?_) | (with_reducible refine below_then ?_ (by with_reducible assumption)) | (with_reducible refine Below.setCell ?_ (by go_size) _))))).mono ?_); rintro e w3 ⟨rfl, hw3⟩; have hw3 := hw3.symm; subst hw3))
        rw [rounds_succ]
        go_wp2_with (first | ((with_reducible refine (HA.out _ (by (repeat (first | (with_reducible exact Below.refl _ _) | (with_reducible assumption) | (with_reducible refine below_alloc ?_ _) | (with_reducible refine below_drewN ?_ _) | (with_reducible refine Below.drew ?_) | (with_reducible refine below_then ?_ (by with_reducible assumption)) | (with_reducible refine Below.setCell ?_ (by go_size) _))))).mono ?_); rintro e w3 ⟨rfl, hw3⟩; have hw3 := hw3.symm; subst hw3) | ((with_reducible refine (HB.out _ (by (repeat (first | (with_reducible exact Below.refl _ _) | (with_reducible assumption) | (with_reducible refine below_alloc ?_ _) | (with_reducible refine below_drewN ?_ _) | (with_reducible refine Below.drew ?_) | (with_reducible refine below_then ?_ (by with_reducible assumption)) | (with_reducible refine Below.setCell ?_ (by go_size) _))))).mono ?_); rintro e w3 ⟨rfl, hw3⟩; have hw3 := hw3.symm; subst hw3))
        rw [rounds_succ]
        go_wp2_with fail
        go_returns
        exact ⟨by rw [HE.out]; rfl, hB⟩
    · rw [if_neg hz] at HE
      have hy1 : (sChk d.n a == 0) = false := by simpa using hz
      have hy2 : (sChk d.n a != 0) = true := by simpa using hz
      clear hz
      go_enter Tryd.func56, Tryd.ntmps56
      go_wp2_with ((with_reducible refine (HM.out _).mono ?_); rintro e w1 ⟨rfl, hb1⟩; (obtain ⟨hc1, hf1⟩ := bcell hb1; have hz1 := hb1.size; (try simp at hz1); have hB : Below w.heap.size w w1 := (by (repeat (first | (with_reducible exact Below.refl _ _) | (with_reducible assumption) | (with_reducible refine below_alloc ?_ _) | (with_reducible refine below_drewN ?_ _) | (with_reducible refine Below.drew ?_) | (with_reducible refine below_then ?_ (by with_reducible assumption)) | (with_reducible refine Below.setCell ?_ (by go_size) _)))); obtain ⟨hcB, hfB⟩ := bcell hB; (try have z0 : w.heap.size < w1.heap.size := by omega); (try have z1 : w.heap.size + 1 < w1.heap.size := by omega); (try have z2 : w.heap.size + 2 < w1.heap.size := by omega); (try have z3 : w.heap.size + 3 < w1.heap.size := by omega)))
      have c0 := H0.out w1 hB
      have c1 := H1.out w1 hB
      refine wp_loop_rounds 3 ?_
      rw [rounds_succ]
      go_wp2_with (first | ((with_reducible refine (HA.out _ (by (repeat (first | (with_reducible exact Below.refl _ _) | (with_reducible assumption) | (with_reducible refine below_alloc ?_ _) | (with_reducible refine below_drewN ?_ _) | (with_reducible refine Below.drew ?_) | (with_reducible refine below_then ?_ (by with_reducible assumption)) | (with_reducible refine Below.setCell ?_ (by go_size) _))))).mono ?_); rintro e w3 ⟨rfl, hw3⟩; have hw3 := hw3.symm; subst hw3) | ((with_reducible refine (HB.out _ (by (repeat (first | (with_reducible exact Below.refl _ _) | (with_reducible assumption) | (with_reducible refine below_alloc ?_ _) | (with_reducible refine below_drewN ?_ _) | (with_reducible refine Below.drew ?_) | (with_reducible refine below_then ?_ (by with_reducible assumption)) | (with_reducible refine Below.setCell ?_ (by go_size) _))))).mono ?_); rintro e w3 ⟨rfl, hw3⟩; have hw3 := hw3.symm; subst hw3))
      rw [rounds_succ]
      go_wp2_with (first | ((with_reducible refine (HA.out _ (by (repeat (first | (with_reducible exact Below.refl _ _) | (with_reducible assumption) | (with_reducible refine below_alloc ?_ _) | (with_reducible refine below_drewN ?_ _) | (with_reducible refine Below.drew ?_) | (with_reducible refine below_then ?_ (by with_reducible assumption)) | (with_reducible refine Below.setCell ?_ (by go_size) _))))).mono ?_); rintro e w3 ⟨rfl, hw3⟩; have hw3 := hw3.symm; subst hw3) | ((with_reducible refine (HB.out _ (by (repeat (first | (with_reducible exact Below.refl _ _) | (with_reducible assumption) | (with_reducible refine below_alloc ?_ _) | (with_reducible refine below_drewN ?_ _) | (with_reducible refine Below.drew ?_) | (with_reducible refine below_then ?_ (by with_reducible assumption)) | (with_reducible refine Below.setCell ?_ (by go_size) _))))).mono ?_); rintro e w3 ⟨rfl, hw3⟩; have hw3 := hw3.symm; subst hw3))
      rw [rounds_succ]
      go_wp2_with fail
      go_returns
      exact ⟨by rw [HE.out]; rfl, hB⟩
  · rw [V3.err_no hd] at HM
    rw [if_neg hd] at HE
    clear hd
    go_enter Tryd.func56, Tryd.ntmps56
    go_wp2_with ((with_reducible refine (HM.out _).mono ?_); rintro e w1 ⟨rfl, hb1⟩; (obtain ⟨hc1, hf1⟩ := bcell hb1; have hz1 := hb1.size; (try simp at hz1); have hB : Below w.heap.size w w1 := (by (repeat (first | (with_reducible exact Below.refl _ _) | (with_reducible assumption) | (with_reducible refine below_alloc ?_ _) | (with_reducible refine below_drewN ?_ _) | (with_reducible refine Below.drew ?_) | (with_reducible refine below_then ?_ (by with_reducible assumption)) | (with_reducible refine Below.setCell ?_ (by go_size) _)))); obtain ⟨hcB, hfB⟩ := bcell hB; (try have z0 : w.heap.size < w1.heap.size := by omega); (try have z1 : w.heap.size + 1 < w1.heap.size := by omega); (try have z2 : w.heap.size + 2 < w1.heap.size := by omega); (try have z3 : w.heap.size + 3 < w1.heap.size := by omega)))
    have c0 := H0.out w1 hB
    have c1 := H1.out w1 hB
    refine wp_loop_rounds 3 ?_
    rw [rounds_succ]
    go_wp2_with fail
    rw [rounds_succ]
    go_wp2_with fail
    rw [rounds_succ]
    go_wp2_with fail
    go_returns
    exact ⟨by rw [HE.out]; rfl, hB⟩
theorem tab_keep' {w W : World} (hT : TabAt 0 Lib.deBruijn64tab w) (hg : 0 < w.heap.size) (hb : Below w.heap.size w W) : TabAt 0 Lib.deBruijn64tab W ∧ 0 < W.heap.size :=
  ⟨fun j hj => (hb.cell (p := ⟨0, j, none⟩) hg).trans (hT j hj), Nat.lt_of_lt_of_le hg hb.size⟩
set_option maxRecDepth 100000 in set_option maxHeartbeats 4000000 in
theorem score_Open (d : V3) (ba bb : Option Addr) (ca cb : Nat) (a b : List Nat) (w : World) (ha : SetIn w ba a) (hb : SetIn w bb b) (hT : TabAt 0 Lib.deBruijn64tab w) (hg : 0 < w.heap.size) :
    Calls Tryd.prog 24 #[.agg #[.int .i64 d.x, .int .i64 d.y, .int .i64 d.z], .slice ba a.length ca, .slice bb b.length cb] w (RB w (.tuple #[.int .i64 (openV d a b), .int .i64 (openE d a b)])) := by
  have HC := Lib.hid (fun W (hw : Below w.heap.size w W) B (h0 : W.cell? ⟨B, 0, none⟩ = some (.slice ba a.length ca)) (h1 : W.cell? ⟨B, 1, none⟩ = some (.slice bb b.length cb)) => score_checked2 d ba bb ca cb a b W B (ha.keep hw) (hb.keep hw) h0 h1)
  rcases openE_08 d a b with h | h
  · obtain ⟨hd, hca, hcb⟩ := openE_0 h
    have HO := Lib.hid (fun W (hw : Below w.heap.size w W) => score_open d ba bb ca cb a b W hd (ha.keep hw) (hb.keep hw) hca hcb (tab_keep' hT hg hw).1 (tab_keep' hT hg hw).2)
    have hv : openV d a b = (openTo d b (nums a) : Nat) := if_pos h
    rw [V3.many_ok hd, h] at HC
    rw [hv, h]
    clear ha hb hT hg hca hcb hv h hd
    go_enter Tryd.func24, Tryd.ntmps24
    go_wp2_with ((with_reducible refine (HC.out _ (by (repeat (first | (with_reducible exact Below.refl _ _) | (with_reducible assumption) | (with_reducible refine below_alloc ?_ _) | (with_reducible refine below_drewN ?_ _) | (with_reducible refine Below.drew ?_) | (with_reducible refine below_then ?_ (by with_reducible assumption)) | (with_reducible refine Below.setCell ?_ (by go_size) _)))) _ (by go_simp) (by go_simp)).mono ?_); rintro e w1 ⟨rfl, hb1⟩; (obtain ⟨hc1, hf1⟩ := bcell hb1; have hz1 := hb1.size; (try simp at hz1); have hB : Below w.heap.size w w1 := (by (repeat (first | (with_reducible exact Below.refl _ _) | (with_reducible assumption) | (with_reducible refine below_alloc ?_ _) | (with_reducible refine below_drewN ?_ _) | (with_reducible refine Below.drew ?_) | (with_reducible refine below_then ?_ (by with_reducible assumption)) | (with_reducible refine Below.setCell ?_ (by go_size) _)))); obtain ⟨hcB, hfB⟩ := bcell hB; (try have z0 : w.heap.size < w1.heap.size := by omega); (try have z1 : w.heap.size + 1 < w1.heap.size := by omega); (try have z2 : w.heap.size + 2 < w1.heap.size := by omega); (try have z3 : w.heap.size + 3 < w1.heap.size := by omega)))
    refine (HO.out _ hB).mono ?_
    rintro e w2 ⟨rfl, hb2⟩
    have hB2 := below_then hB hb2
    go_wp2_with fail
    go_returns
    exact ⟨rfl, hB2⟩
  · have hv : openV d a b = 0 := if_neg (by rw [h]; decide)
    rw [h] at HC
    rw [hv, h]
    clear ha hb hT hg hv h
    go_enter Tryd.func24, Tryd.ntmps24
    go_wp2_with ((with_reducible refine (HC.out _ (by (repeat (first | (with_reducible exact Below.refl _ _) | (with_reducible assumption) | (with_reducible refine below_alloc ?_ _) | (with_reducible refine below_drewN ?_ _) | (with_reducible refine Below.drew ?_) | (with_reducible refine below_then ?_ (by with_reducible assumption)) | (with_reducible refine Below.setCell ?_ (by go_size) _)))) _ (by go_simp) (by go_simp)).mono ?_); rintro e w1 ⟨rfl, hb1⟩; (obtain ⟨hc1, hf1⟩ := bcell hb1; have hz1 := hb1.size; (try simp at hz1); have hB : Below w.heap.size w w1 := (by (repeat (first | (with_reducible exact Below.refl _ _) | (with_reducible assumption) | (with_reducible refine below_alloc ?_ _) | (with_reducible refine below_drewN ?_ _) | (with_reducible refine Below.drew ?_) | (with_reducible refine below_then ?_ (by with_reducible assumption)) | (with_reducible refine Below.setCell ?_ (by go_size) _)))); obtain ⟨hcB, hfB⟩ := bcell hB; (try have z0 : w.heap.size < w1.heap.size := by omega); (try have z1 : w.heap.size + 1 < w1.heap.size := by omega); (try have z2 : w.heap.size + 2 < w1.heap.size := by omega); (try have z3 : w.heap.size + 3 < w1.heap.size := by omega)))
    all_goals
      go_returns
      exact ⟨rfl, hB⟩
end Go.Proofs.YthabpiphfaedaaaDoor
