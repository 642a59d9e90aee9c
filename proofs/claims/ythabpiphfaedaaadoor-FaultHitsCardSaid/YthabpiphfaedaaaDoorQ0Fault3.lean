/- FAULT: slices.Delete at a row of the call's own; what Mark's and Clear's closures do. -/
import Derived.Lib.RowBridge
import Derived.Deep.RegionHeld3
import Derived.Test.YthabpiphfaedaaaDoorQ0Fault2
import Derived.Test.YthabpiphfaedaaaDoorQ0IIns3
import Derived.Test.YthabpiphfaedaaaDoorShelfDel
namespace Go.Proofs.YthabpiphfaedaaaDoor

section
open Go.RowKit Go.Shelf Go.Sort

theorem own_setCellsD {base e g cap n : Nat} : ∀ (vs : List Value) (o : Nat) (w : World) (xs : List Value), w.ownsRow base e 1 (.slice (some ⟨g, 0, none⟩) n cap) n xs → o + vs.length ≤ n →
    (w.setCells g o vs).ownsRow base e 1 (.slice (some ⟨g, 0, none⟩) n cap) n (xs.take o ++ vs ++ xs.drop (o + vs.length))
  | [], o, w, xs, h, _ => by simpa [World.setCells] using h
  | v :: r, o, w, xs, h, hl => by
    have hlen := h.1
    simp only [List.length_cons] at hl
    have h1 := (h.stored o v).1
    have h2 := own_setCellsD r (o + 1) _ _ h1 (by omega)
    have e : (xs.set o v).take (o + 1) ++ r ++ (xs.set o v).drop (o + 1 + r.length) = xs.take o ++ (v :: r) ++ xs.drop (o + (v :: r).length) := by
      rw [List.take_succ_eq_append_getElem (by simp; omega), List.take_set_of_le (Nat.le_refl _), List.drop_set_of_lt (by omega)]
      simp [show o + 1 + r.length = o + (r.length + 1) by omega]
    rw [e] at h2
    exact h2
theorem below_setCellsD {B g : Nat} (hg : B ≤ g) : ∀ (vs : List Value) (o : Nat) (W w : World), Below B W w → Below B W (w.setCells g o vs)
  | [], _, _, _, h => h
  | v :: r, o, W, w, h => below_setCellsD hg r (o + 1) W _ (h.setCell (p := ⟨g, o, none⟩) hg v)
theorem own_shrink {w : World} {B e g cap n m : Nat} {xs : List Value} (h : w.ownsRow B e 1 (.slice (some ⟨g, 0, none⟩) n cap) n xs) (hm : m ≤ n) : w.ownsRow B e 1 (.slice (some ⟨g, 0, none⟩) m cap) m (xs.take m) := by
  rcases h.2 with ⟨e, _⟩ | ⟨g', cap', cur, e, hbg, hg, hn, hc, hs, ht⟩
  · cases e
  · cases e
    refine ⟨by rw [List.length_take, h.1]; omega, .inr ⟨g, cap, cur, rfl, hbg, hg, by omega, hc, hs, ?_⟩⟩
    rw [← ht, List.take_take]
    congr 1
    omega
/-- A new list with an error is handed back. -/
def RLF (w : World) (l : List Int) (n : Int) : Ending → World → Prop := fun e w' => ∃ v, e = .returned (.tuple #[v, .int .i64 n]) ∧ w'.ownsRow w.heap.size 3 1 v l.length (ic l) ∧ Below w.heap.size w w'
theorem rlf_nil {w w' : World} (n : Int) (hb : Below w.heap.size w w') : RLF w [] n (.returned (.tuple #[.slice none 0 0, .int .i64 n])) w' := ⟨_, rfl, ⟨rfl, .inl ⟨rfl, rfl⟩⟩, hb⟩
set_option maxRecDepth 100000 in set_option maxHeartbeats 4000000 in
theorem fault_Mark1_no (x : Int) (P4 P5 : Nat) (w : World) :
    Calls Tryd.prog 96 #[.int .i64 x, .bool true, .pointer (some ⟨P4, 0, none⟩), .pointer (some ⟨P5, 0, none⟩)] w (RLF w [] 170) := by
  go_enter Tryd.func96, Tryd.ntmps96
  go_wp2_with fail
  go_returns
  exact rlf_nil _ (by (repeat (first | (with_reducible exact Below.refl _ _) | (with_reducible assumption) | (with_reducible refine below_alloc ?_ _) | (with_reducible refine below_drewN ?_ _) | (with_reducible refine Below.drew ?_) | (with_reducible refine below_then ?_ (by with_reducible assumption)) | (with_reducible refine Below.setCell ?_ (by go_size) _))))
set_option maxRecDepth 100000 in set_option maxHeartbeats 4000000 in
theorem fault_Mark1 (base : Option Addr) (cap : Nat) (l : List Int) (k : Int) (P4 P5 : Nat) (w : World) (h4 : w.cell? ⟨P4, 0, none⟩ = some (.slice base l.length cap)) (h5 : w.cell? ⟨P5, 0, none⟩ = some (.int .i64 k)) (hl : IIn w base l) (hna : base = none → l.length = 0) :
    Calls Tryd.prog 96 #[.int .i64 (lb l k : Nat), .bool false, .pointer (some ⟨P4, 0, none⟩), .pointer (some ⟨P5, 0, none⟩)] w (RLF w (insL l k) 0) := by
  have p4 := World.block_lt_of_cell? w _ h4
  have p5 := World.block_lt_of_cell? w _ h5
  simp only [] at p4 p5
  have HS := Lib.hid (fun W (h : Below w.heap.size w W) => (⟨(h.cell (p := ⟨P4, 0, none⟩) p4).trans h4, (h.cell (p := ⟨P5, 0, none⟩) p5).trans h5⟩ : W.cell? ⟨P4, 0, none⟩ = some (.slice base l.length cap) ∧ W.cell? ⟨P5, 0, none⟩ = some (.int .i64 k)))
  have H4 := Lib.hid (fun W (h : Below w.heap.size w W) => slices_Clone base cap l W (hl.keep h).rd hna (by have := hl.len; omega))
  have hal := lb_le l k
  have hl30 := hl.len
  have H6 := Lib.hid (fun B v vb ty W hB ho hs hne => slices_Insert B v l (lb l k) k vb ty W hB ho hal hl30 hs hne)
  have HP := Lib.hid (show insL l k = l.take (lb l k) ++ k :: l.drop (lb l k) from rfl)
  rw [← HP.out] at H6
  clear hl hna HP
  generalize lb l k = m at *
  have mixed : Tryd.prog.follows .mixedOrders = true := by kernel_rfl
  go_enter Tryd.func96, Tryd.ntmps96
  go_wp2_with fail
  go_region_held3 (fun W => W.cell? ⟨P4, 0, none⟩ = some (.slice base l.length cap) ∧ W.cell? ⟨P5, 0, none⟩ = some (.int .i64 k)) (go_keep)
    (first
      | (go_at_call 98; refine (H4.out _ (by (repeat (first | (with_reducible exact Below.refl _ _) | (with_reducible assumption) | (with_reducible refine below_alloc ?_ _) | (with_reducible refine below_drewN ?_ _) | (with_reducible refine Below.drew ?_) | (with_reducible refine below_then ?_ (by with_reducible assumption)) | (with_reducible refine Below.setCell ?_ (by go_size) _))))).mono ?_; rintro e wa ⟨va, rfl, hoa, hba⟩; have hlo := hoa.lt; have hza := hba.size; (try simp at hza hlo); have hBa := below_then (show Below w.heap.size w _ by (repeat (first | (with_reducible exact Below.refl _ _) | (with_reducible assumption) | (with_reducible refine below_alloc ?_ _) | (with_reducible refine below_drewN ?_ _) | (with_reducible refine Below.drew ?_) | (with_reducible refine below_then ?_ (by with_reducible assumption)) | (with_reducible refine Below.setCell ?_ (by go_size) _)))) hba; have hown := own_mono hoa (show w.heap.size ≤ _ by first | omega | (simp <;> omega)); clear hoa; obtain ⟨ka0, ka1⟩ := HS.out _ hBa)
      | (go_at_call 97; refine (H6.out w.heap.size _ _ 3 _ (by first | omega | (simp <;> omega)) (by (repeat (first | (with_reducible assumption) | (refine World.ownsRow.alloc ?_ _)))) (by (repeat (first | (exact Blk.new _ _ _) | (refine Blk.below ?_ hba)))) (by intro e; have := hlo _ e; first | omega | (simp at this <;> omega))).mono ?_; rintro e wi ⟨vi, rfl, hoi, hbi⟩; have hBi := (show Below w.heap.size w _ by (repeat (first | (with_reducible exact Below.refl _ _) | (with_reducible assumption) | (with_reducible refine below_alloc ?_ _) | (with_reducible refine below_drewN ?_ _) | (with_reducible refine Below.drew ?_) | (with_reducible refine below_then ?_ (by with_reducible assumption)) | (with_reducible refine Below.setCell ?_ (by go_size) _)))).trans hbi; obtain ⟨ki0, ki1⟩ := HS.out _ hBi))
  all_goals go_wp2_with fail
  all_goals go_returns
  all_goals exact ⟨_, rfl, hoi, hBi⟩
end
end Go.Proofs.YthabpiphfaedaaaDoor
