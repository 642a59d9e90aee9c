/- CAL: Cut, Take. -/
import Derived.Test.YtfikgjcmnooglaaCut1
namespace Go.Proofs.Ytfikgjcmnooglaa
open Go.RowKit Go.Shelf

theorem cellOf_alloc (w : World) (x : Value) (t : TypeId) : (w.alloc (.cells #[x] t)).cell? ⟨w.heap.size, 0, none⟩ = some x := by
  rw [World.cell?_alloc_new]; rfl
/-- What Cut hands back. -/
def cutV (ow to : Int) (c : List Sl) : List Sl := if calE c = 0 then cutL ow to c else []
/-- A new calendar with an error is handed back. -/
def RSE (w : World) (l : List Sl) (n : Int) : Ending → World → Prop := fun e w' => ∃ v, e = .returned (.tuple #[v, .int .i64 n]) ∧ w'.ownsRow w.heap.size 57 3 v l.length (slc l) ∧ Below w.heap.size w w'
set_option maxRecDepth 100000 in set_option maxHeartbeats 4000000 in
theorem cal_Cut (ba : Option Addr) (ca : Nat) (c : List Sl) (ow to : Int) (w : World) (hc : CIn w ba c) :
    Calls Try.prog 38 #[.slice ba c.length ca, .int .i64 ow, .int .i64 to] w (RSE w (cutV ow to c) (calE c)) := by
  have H1 := Lib.hid (fun W (h : Below w.heap.size w W) => cal_Check ba ca c W (hc.keep h))
  have H2 := Lib.hid (fun p q W (h : Below w.heap.size w W) hl => cal_kept ba ca c p q ow to W (hc.keep h) hl)
  clear hc
  by_cases he : calE c = 0
  · have hl : c.length ≤ 5000 := by
      unfold calE at he
      split at he
      · next h => unfold calOk at h; rw [Bool.and_eq_true, decide_eq_true_iff] at h; omega
      · cases he
    have HV := Lib.hid (show cutV ow to c = cutL ow to c from if_pos he)
    rw [he] at H1 ⊢
    rw [HV.out]
    generalize cutL ow to c = l at *
    clear he
    go_enter Try.func38, Try.ntmps38
    go_wp2_with fail
    refine (H1.out _ (by (repeat (first | (with_reducible exact Below.refl _ _) | (with_reducible assumption) | (with_reducible refine below_alloc ?_ _) | (with_reducible refine below_drewN ?_ _) | (with_reducible refine Below.drew ?_) | (with_reducible refine below_then ?_ (by with_reducible assumption)) | (with_reducible refine Below.setCell ?_ (by go_size) _))))).mono ?_
    rintro e w1 ⟨rfl, hb1⟩
    have hB : Below w.heap.size w w1 := below_then (by (repeat (first | (with_reducible exact Below.refl _ _) | (with_reducible assumption) | (with_reducible refine below_alloc ?_ _) | (with_reducible refine below_drewN ?_ _) | (with_reducible refine Below.drew ?_) | (with_reducible refine below_then ?_ (by with_reducible assumption)) | (with_reducible refine Below.setCell ?_ (by go_size) _)))) hb1
    go_wp2_with fail
    refine (H2.out _ _ _ hB hl ((hb1.cell (p := ⟨w.heap.size, 0, none⟩) (by simp; omega)).trans (by simp [go_sem])) ((hb1.cell (p := ⟨w.heap.size + 1, 0, none⟩) (by simp)).trans (by simp [go_sem]))).mono ?_
    rintro e w2 ⟨v, rfl, ho, hb2⟩
    go_wp2_with fail
    go_returns
    exact ⟨_, rfl, own_mono ho (by have := hB.size; omega), below_then hB hb2⟩
  · have HV := Lib.hid (show cutV ow to c = [] from if_neg he)
    have hn : (calE c == 0) = false := by simpa using he
    have hm : (calE c != 0) = true := by simpa using he
    rw [HV.out]
    generalize calE c = z at *
    go_enter Try.func38, Try.ntmps38
    go_wp2_with fail
    refine (H1.out _ (by (repeat (first | (with_reducible exact Below.refl _ _) | (with_reducible assumption) | (with_reducible refine below_alloc ?_ _) | (with_reducible refine below_drewN ?_ _) | (with_reducible refine Below.drew ?_) | (with_reducible refine below_then ?_ (by with_reducible assumption)) | (with_reducible refine Below.setCell ?_ (by go_size) _))))).mono ?_
    rintro e w1 ⟨rfl, hb1⟩
    go_wp2_with fail
    go_returns
    exact ⟨_, rfl, ⟨rfl, .inl ⟨rfl, rfl⟩⟩, below_then (by (repeat (first | (with_reducible exact Below.refl _ _) | (with_reducible assumption) | (with_reducible refine below_alloc ?_ _) | (with_reducible refine below_drewN ?_ _) | (with_reducible refine Below.drew ?_) | (with_reducible refine below_then ?_ (by with_reducible assumption)) | (with_reducible refine Below.setCell ?_ (by go_size) _)))) hb1⟩
end Go.Proofs.Ytfikgjcmnooglaa
