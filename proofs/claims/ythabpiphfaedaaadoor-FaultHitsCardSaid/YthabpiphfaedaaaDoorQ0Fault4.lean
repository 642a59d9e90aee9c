/- FAULT: Mark, Clear. -/
import Derived.Test.YthabpiphfaedaaaDoorQ0Fault3
namespace Go.Proofs.YthabpiphfaedaaaDoor

section
open Go.RowKit Go.Shelf

set_option maxRecDepth 100000 in set_option maxHeartbeats 4000000 in
theorem turned_bad (dv : Value) (n : Int) (base : Option Addr) (cap : Nat) (l : List Int) (k : Int) (w : World) (hl : IIn w base l) (h : askM n l k ≠ 0) :
    Calls Tryd.prog 95 #[.int .i64 n, .slice base l.length cap, .int .i64 k, dv] w (RLF w [] (askM n l k)) := by
  by_cases ha : (1 ≤ n ∧ n ≤ 12288) ∧ (0 ≤ k ∧ k < n)
  · have hm : mk n (-1) l = false := by
      cases hm : mk n (-1) l
      · rfl
      · exact absurd (askM_0.2 ⟨ha, hm⟩) h
    have e8 : askM n l k = 8 := by unfold askM; rw [if_pos ha, hm]; rfl
    have H1 := Lib.hid (Calls.rb_eq (fault_marks n base cap l w hl) (congrArg Value.bool hm))
    rw [e8]
    obtain ⟨⟨a1, a2⟩, a3, a4⟩ := ha
    clear h hm e8 hl
    go_enter Tryd.func95, Tryd.ntmps95
    go_wp2_with fail
    refine H1.out.mono ?_
    rintro e w1 ⟨rfl, hb⟩
    go_wp2_with fail
    go_returns
    exact rlf_nil _ hb
  · have e2 : askM n l k = 2 := by unfold askM; rw [if_neg ha]
    rw [e2]
    clear h hl e2
    rcases Int.lt_or_le n 1 with a1 | a1
    · clear ha
      (go_enter Tryd.func95, Tryd.ntmps95; go_wp2_with fail; go_returns; exact rlf_nil _ (by (repeat (first | (with_reducible exact Below.refl _ _) | (with_reducible assumption) | (with_reducible refine below_alloc ?_ _) | (with_reducible refine below_drewN ?_ _) | (with_reducible refine Below.drew ?_) | (with_reducible refine below_then ?_ (by with_reducible assumption)) | (with_reducible refine Below.setCell ?_ (by go_size) _)))))
    rcases Int.lt_or_le 12288 n with a2 | a2
    · clear ha
      (go_enter Tryd.func95, Tryd.ntmps95; go_wp2_with fail; go_returns; exact rlf_nil _ (by (repeat (first | (with_reducible exact Below.refl _ _) | (with_reducible assumption) | (with_reducible refine below_alloc ?_ _) | (with_reducible refine below_drewN ?_ _) | (with_reducible refine Below.drew ?_) | (with_reducible refine below_then ?_ (by with_reducible assumption)) | (with_reducible refine Below.setCell ?_ (by go_size) _)))))
    rcases Int.lt_or_le k 0 with a3 | a3
    · clear ha
      (go_enter Tryd.func95, Tryd.ntmps95; go_wp2_with fail; go_returns; exact rlf_nil _ (by (repeat (first | (with_reducible exact Below.refl _ _) | (with_reducible assumption) | (with_reducible refine below_alloc ?_ _) | (with_reducible refine below_drewN ?_ _) | (with_reducible refine Below.drew ?_) | (with_reducible refine below_then ?_ (by with_reducible assumption)) | (with_reducible refine Below.setCell ?_ (by go_size) _)))))
    have a4 : n ≤ k := by omega
    clear ha
    (go_enter Tryd.func95, Tryd.ntmps95; go_wp2_with fail; go_returns; exact rlf_nil _ (by (repeat (first | (with_reducible exact Below.refl _ _) | (with_reducible assumption) | (with_reducible refine below_alloc ?_ _) | (with_reducible refine below_drewN ?_ _) | (with_reducible refine Below.drew ?_) | (with_reducible refine below_then ?_ (by with_reducible assumption)) | (with_reducible refine Below.setCell ?_ (by go_size) _)))))

set_option maxRecDepth 100000 in set_option maxHeartbeats 4000000 in
theorem turned_Mark (n : Int) (base : Option Addr) (cap : Nat) (l : List Int) (k : Int) (P4 P5 : Nat) (w : World) (hl : IIn w base l) (hna : base = none → l.length = 0) (h : askM n l k = 0) (h4 : w.cell? ⟨P4, 0, none⟩ = some (.slice base l.length cap)) (h5 : w.cell? ⟨P5, 0, none⟩ = some (.int .i64 k)) :
    Calls Tryd.prog 95 #[.int .i64 n, .slice base l.length cap, .int .i64 k, .func (.func 96) #[] #[.pointer (some ⟨P4, 0, none⟩), .pointer (some ⟨P5, 0, none⟩)]] w (RLF w (markV n l k) (markE n l k)) := by
  have eg : ∀ args w, (callFunc 96 args).run Tryd.prog w = .ok (.enter 96 args) w := enters_of Tryd.func96 (by kernel_rfl) rfl
  obtain ⟨⟨⟨a1, a2⟩, a3, a4⟩, hm⟩ := askM_0.1 h
  have hs := (mk_iff.1 hm).2
  have p4 := World.block_lt_of_cell? w _ h4
  have p5 := World.block_lt_of_cell? w _ h5
  simp only [] at p4 p5
  have H1 := Lib.hid (Calls.rb_eq (fault_marks n base cap l w hl) (congrArg Value.bool hm))
  have H2 := Lib.hid (fun W (h : Below w.heap.size w W) => bsearch base cap l k W (hl.keep h) hs)
  rcases mark_cases n l k with ⟨c1, _⟩ | ⟨_, c2, c3, c4, _⟩ | ⟨_, c2, c3, c4, _⟩
  · exact absurd h c1
  · have H2 := Lib.hid (fun W hh => Calls.rb_eq (H2.out W hh) (show _ = Value.tuple #[.int .i64 (lb l k : Nat), .bool true] by rw [decide_eq_true c2]))
    have H3 := Lib.hid (fun W (_ : Below w.heap.size w W) => fault_Mark1_no (lb l k : Nat) P4 P5 W)
    rw [c3, c4]
    clear c2 c3 c4 hl hna h h4 h5 hm hs
    generalize lb l k = m at *
    (go_enter Tryd.func95, Tryd.ntmps95; go_wp2_with fail; refine H1.out.mono ?_; rintro e w1 ⟨rfl, hb1⟩; go_wp2_with fail; refine (H2.out _ hb1).mono ?_; rintro e w2 ⟨rfl, hb2⟩; have hB2 := below_then hb1 hb2; go_wp2_with fail; refine (H3.out _ hB2).mono ?_; rintro e w3 ⟨v, rfl, ho, hb3⟩; have HO := Lib.hid ho; clear ho; go_wp2_with fail; go_returns; exact ⟨_, rfl, own_mono HO.out hB2.size, below_then hB2 hb3⟩)
  · have H2 := Lib.hid (fun W hh => Calls.rb_eq (H2.out W hh) (show _ = Value.tuple #[.int .i64 (lb l k : Nat), .bool false] by rw [decide_eq_false c2]))
    have H3 := Lib.hid (fun W (hh : Below w.heap.size w W) => fault_Mark1 base cap l k P4 P5 W ((hh.cell (p := ⟨P4, 0, none⟩) p4).trans h4) ((hh.cell (p := ⟨P5, 0, none⟩) p5).trans h5) (hl.keep hh) hna)
    rw [c3, c4]
    clear c2 c3 c4 hl hna h h4 h5 hm hs
    generalize insL l k = R at *
    generalize lb l k = m at *
    (go_enter Tryd.func95, Tryd.ntmps95; go_wp2_with fail; refine H1.out.mono ?_; rintro e w1 ⟨rfl, hb1⟩; go_wp2_with fail; refine (H2.out _ hb1).mono ?_; rintro e w2 ⟨rfl, hb2⟩; have hB2 := below_then hb1 hb2; go_wp2_with fail; refine (H3.out _ hB2).mono ?_; rintro e w3 ⟨v, rfl, ho, hb3⟩; have HO := Lib.hid ho; clear ho; go_wp2_with fail; go_returns; exact ⟨_, rfl, own_mono HO.out hB2.size, below_then hB2 hb3⟩)
set_option maxRecDepth 100000 in set_option maxHeartbeats 4000000 in
theorem fault_Mark (n : Int) (base : Option Addr) (cap : Nat) (l : List Int) (k : Int) (w : World) (hl : IIn w base l) (hna : base = none → l.length = 0) :
    Calls Tryd.prog 72 #[.int .i64 n, .slice base l.length cap, .int .i64 k] w (RLF w (markV n l k) (markE n l k)) := by
  have HT := Lib.hid (fun W (hb : Below w.heap.size w W) P4 P5 (h4 : W.cell? ⟨P4, 0, none⟩ = some (.slice base l.length cap)) (h5 : W.cell? ⟨P5, 0, none⟩ = some (.int .i64 k)) => (show Calls Tryd.prog 95 #[.int .i64 n, .slice base l.length cap, .int .i64 k, .func (.func 96) #[] #[.pointer (some ⟨P4, 0, none⟩), .pointer (some ⟨P5, 0, none⟩)]] W (RLF W (markV n l k) (markE n l k)) by
    by_cases h : askM n l k = 0
    · exact turned_Mark n base cap l k P4 P5 W (hl.keep hb) hna h h4 h5
    · rcases mark_cases n l k with ⟨_, c3, c4, _⟩ | ⟨c1, _⟩ | ⟨c1, _⟩
      · rw [c3, c4]; exact turned_bad _ n base cap l k W (hl.keep hb) h
      · exact absurd c1 h
      · exact absurd c1 h))
  clear hl hna
  generalize markV n l k = R at *
  generalize markE n l k = E at *
  go_enter Tryd.func72, Tryd.ntmps72
  go_wp2_with fail
  refine (HT.out _ (by (repeat (first | (with_reducible exact Below.refl _ _) | (with_reducible assumption) | (with_reducible refine below_alloc ?_ _) | (with_reducible refine below_drewN ?_ _) | (with_reducible refine Below.drew ?_) | (with_reducible refine below_then ?_ (by with_reducible assumption)) | (with_reducible refine Below.setCell ?_ (by go_size) _)))) w.heap.size (w.heap.size + 1) (by simp [go_sem]) (by simp [go_sem])).mono ?_
  rintro e w1 ⟨v, rfl, ho, hb⟩
  have hB := below_then (show Below w.heap.size w _ by (repeat (first | (with_reducible exact Below.refl _ _) | (with_reducible assumption) | (with_reducible refine below_alloc ?_ _) | (with_reducible refine below_drewN ?_ _) | (with_reducible refine Below.drew ?_) | (with_reducible refine below_then ?_ (by with_reducible assumption)) | (with_reducible refine Below.setCell ?_ (by go_size) _)))) hb
  have HO := Lib.hid (own_mono ho (show w.heap.size ≤ _ by first | omega | (simp <;> omega)))
  clear ho hb
  go_wp2_with fail
  go_returns
  exact ⟨_, rfl, HO.out, hB⟩
end
end Go.Proofs.YthabpiphfaedaaaDoor
