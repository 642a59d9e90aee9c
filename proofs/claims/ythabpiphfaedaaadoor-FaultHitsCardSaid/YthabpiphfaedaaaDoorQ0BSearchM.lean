/- MARKS: rising numbers; slices.BinarySearch at numbers. -/
import Derived.Test.YthabpiphfaedaaaDoorQ2FaultHits
import Derived.Test.YthabpiphfaedaaaDoorQ3FaultHits
namespace Go.Proofs.YthabpiphfaedaaaDoor

section
section
open Go.RowKit Go.Shelf

/-- Rising, from behind a number on, below another one. -/
def mk (n : Int) (last : Int) : List Int → Bool
  | [] => true
  | k :: r => (decide (last < k) && decide (k < n)) && mk n k r
theorem mk_iff {n : Int} : ∀ {l : List Int} {last : Int}, mk n last l = true ↔ (∀ x ∈ l, last < x ∧ x < n) ∧ l.Pairwise (· < ·)
  | [], _ => by simp [mk]
  | k :: l, last => by
    simp only [mk, Bool.and_eq_true, decide_eq_true_iff, mk_iff (l := l), List.mem_cons, forall_eq_or_imp, List.pairwise_cons]
    constructor
    · rintro ⟨⟨h1, h2⟩, h3, h4⟩
      exact ⟨⟨⟨h1, h2⟩, fun x hx => ⟨by have := (h3 x hx).1; omega, (h3 x hx).2⟩⟩, fun x hx => (h3 x hx).1, h4⟩
    · rintro ⟨⟨⟨h1, h2⟩, h3⟩, h4, h5⟩
      exact ⟨⟨h1, h2⟩, fun x hx => ⟨h4 x hx, (h3 x hx).2⟩, h5⟩
theorem sorted_ext : ∀ {a b : List Int}, a.Pairwise (· < ·) → b.Pairwise (· < ·) → (∀ x, x ∈ a ↔ x ∈ b) → a = b
  | [], [], _, _, _ => rfl
  | [], y :: b, _, _, h => absurd ((h y).2 (List.mem_cons_self ..)) (by simp)
  | x :: a, [], _, _, h => absurd ((h x).1 (List.mem_cons_self ..)) (by simp)
  | x :: a, y :: b, ha, hb, h => by
    rw [List.pairwise_cons] at ha hb
    have h1 := (h x).1 (List.mem_cons_self ..)
    have h2 := (h y).2 (List.mem_cons_self ..)
    have e : x = y := by
      rcases List.mem_cons.1 h1 with e | e
      · exact e
      · rcases List.mem_cons.1 h2 with e2 | e2
        · exact e2.symm
        · have := hb.1 x e; have := ha.1 y e2; omega
    subst e
    rw [sorted_ext ha.2 hb.2 (fun z => ?_)]
    constructor
    · intro hz
      have := ha.1 z hz
      rcases List.mem_cons.1 ((h z).1 (List.mem_cons_of_mem _ hz)) with e | e
      · omega
      · exact e
    · intro hz
      have := hb.1 z hz
      rcases List.mem_cons.1 ((h z).2 (List.mem_cons_of_mem _ hz)) with e | e
      · omega
      · exact e

/-- The place of the first that isn't less. -/
def lb (l : List Int) (k : Int) : Nat := l.findIdx (fun x => decide (k ≤ x))
theorem lb_le (l : List Int) (k : Int) : lb l k ≤ l.length := List.findIdx_le_length
theorem lb_iff {l : List Int} (h : l.Pairwise (· < ·)) (k : Int) {j : Nat} (hj : j < l.length) : l[j] < k ↔ j < lb l k := by
  unfold lb
  constructor
  · intro h1
    rcases Nat.lt_or_ge j (l.findIdx (fun x => decide (k ≤ x))) with h2 | h2
    · exact h2
    · exfalso
      have h3 : l.findIdx (fun x => decide (k ≤ x)) < l.length := by omega
      have h4 := List.findIdx_getElem (w := h3)
      rw [decide_eq_true_iff] at h4
      rcases Nat.lt_or_ge (l.findIdx (fun x => decide (k ≤ x))) j with h5 | h5
      · have := List.pairwise_iff_getElem.1 h _ _ h3 hj h5
        omega
      · have e : l.findIdx (fun x => decide (k ≤ x)) = j := by omega
        simp only [e] at h4
        omega
  · intro h1
    have := List.not_of_lt_findIdx h1
    simpa using this
theorem lb_at {l : List Int} (h : l.Pairwise (· < ·)) (k : Int) : k ∈ l ↔ ∃ hj : lb l k < l.length, l[lb l k] = k := by
  constructor
  · intro hk
    obtain ⟨j, hj, e⟩ := List.mem_iff_getElem.1 hk
    have h1 : ¬ j < lb l k := fun h2 => by have := (lb_iff h k hj).2 h2; omega
    have h2 : lb l k < l.length := by omega
    refine ⟨h2, ?_⟩
    have h3 : ¬ l[lb l k] < k := fun h4 => by have := (lb_iff h k h2).1 h4; omega
    rcases Nat.lt_or_ge (lb l k) j with h5 | h5
    · have := List.pairwise_iff_getElem.1 h _ _ h2 hj h5
      omega
    · have e2 : lb l k = j := by omega
      simp only [e2]; exact e
  · rintro ⟨hj, e⟩
    rw [← e]; exact List.getElem_mem hj
theorem take_lb {l : List Int} (h : l.Pairwise (· < ·)) (k : Int) : ∀ x ∈ l.take (lb l k), x < k := by
  intro x hx
  obtain ⟨j, hj, rfl⟩ := List.mem_iff_getElem.1 hx
  rw [List.length_take] at hj
  rw [List.getElem_take]
  exact (lb_iff h k (by omega)).2 (by omega)
theorem drop_lb {l : List Int} (h : l.Pairwise (· < ·)) (k : Int) : ∀ x ∈ l.drop (lb l k), k ≤ x := by
  intro x hx
  obtain ⟨j, hj, rfl⟩ := List.mem_iff_getElem.1 hx
  rw [List.length_drop] at hj
  rw [List.getElem_drop]
  have : ¬ l[lb l k + j] < k := fun h4 => by have := (lb_iff h k (by omega)).1 h4; omega
  omega

/-! ### one more, one less -/
def insL (l : List Int) (k : Int) : List Int := l.take (lb l k) ++ k :: l.drop (lb l k)
def delL (l : List Int) (k : Int) : List Int := l.take (lb l k) ++ l.drop (lb l k + 1)
theorem mem_insL {l : List Int} {k x : Int} : x ∈ insL l k ↔ x = k ∨ x ∈ l := by
  unfold insL
  rw [List.mem_append, List.mem_cons]
  constructor
  · rintro (h | h | h)
    · exact .inr (List.mem_of_mem_take h)
    · exact .inl h
    · exact .inr (List.mem_of_mem_drop h)
  · rintro (h | h)
    · exact .inr (.inl h)
    · rw [← List.take_append_drop (lb l k) l, List.mem_append] at h
      rcases h with h | h
      · exact .inl h
      · exact .inr (.inr h)
theorem insL_sorted {l : List Int} (h : l.Pairwise (· < ·)) {k : Int} (hk : k ∉ l) : (insL l k).Pairwise (· < ·) := by
  have h1 := take_lb h k
  have h2 := drop_lb h k
  have h' := h
  unfold insL
  rw [← List.take_append_drop (lb l k) l, List.pairwise_append] at h'
  rw [List.pairwise_append, List.pairwise_cons]
  refine ⟨h'.1, ⟨fun x hx => ?_, h'.2.1⟩, fun x hx y hy => ?_⟩
  · have := h2 x hx
    have : x ≠ k := fun e => hk (by rw [← e]; exact List.mem_of_mem_drop hx)
    omega
  · rcases List.mem_cons.1 hy with rfl | hy
    · exact h1 x hx
    · exact h'.2.2 x hx y hy
theorem insL_len (l : List Int) (k : Int) : (insL l k).length = l.length + 1 := by
  have := lb_le l k
  simp [insL]; omega
theorem delL_eq {l : List Int} (h : l.Pairwise (· < ·)) {k : Int} (hk : k ∈ l) : delL l k = l.filter (fun x => decide (x ≠ k)) := by
  obtain ⟨hj, e⟩ := (lb_at h k).1 hk
  unfold delL
  conv => rhs; rw [← List.take_append_drop (lb l k) l, List.drop_eq_getElem_cons hj, e]
  rw [List.filter_append, List.filter_cons, if_neg (by simp)]
  have h1 := take_lb h k
  have hd := h
  rw [← List.take_append_drop (lb l k) l, List.drop_eq_getElem_cons hj, e, List.pairwise_append, List.pairwise_cons] at hd
  rw [List.filter_eq_self.2, List.filter_eq_self.2]
  · intro x hx; have := hd.2.1.1 x hx; simp; omega
  · intro x hx; have := h1 x hx; simp; omega
theorem mem_delL {l : List Int} (h : l.Pairwise (· < ·)) {k : Int} (hk : k ∈ l) {x : Int} : x ∈ delL l k ↔ x ∈ l ∧ x ≠ k := by
  rw [delL_eq h hk, List.mem_filter]; simp
theorem delL_sorted {l : List Int} (h : l.Pairwise (· < ·)) {k : Int} (hk : k ∈ l) : (delL l k).Pairwise (· < ·) := by
  rw [delL_eq h hk]; exact h.filter _

/-- Errors; what is handed back. -/
def askM (n : Int) (l : List Int) (k : Int) : Int := if (1 ≤ n ∧ n ≤ 12288) ∧ (0 ≤ k ∧ k < n) then if mk n (-1) l then 0 else 8 else 2
def markE (n : Int) (l : List Int) (k : Int) : Int := if askM n l k = 0 then if k ∈ l then 170 else 0 else askM n l k
def markV (n : Int) (l : List Int) (k : Int) : List Int := if markE n l k = 0 then insL l k else []
def clearE (n : Int) (l : List Int) (k : Int) : Int := if askM n l k = 0 then if k ∈ l then 0 else 6 else askM n l k
def clearV (n : Int) (l : List Int) (k : Int) : List Int := if clearE n l k = 0 then delL l k else []
theorem askM_0 {n : Int} {l : List Int} {k : Int} : askM n l k = 0 ↔ ((1 ≤ n ∧ n ≤ 12288) ∧ (0 ≤ k ∧ k < n)) ∧ mk n (-1) l = true := by
  unfold askM
  constructor
  · intro h
    split at h
    · next h1 =>
      split at h
      · next h2 => exact ⟨h1, h2⟩
      · cases h
    · cases h
  · rintro ⟨h1, h2⟩
    rw [if_pos h1, if_pos h2]
theorem mk_len {n : Int} : ∀ {l : List Int} {last : Int}, mk n last l = true → (l.length : Int) ≤ n - 1 - last ∨ l = []
  | [], _, _ => .inr rfl
  | k :: l, last, h => by
    simp only [mk, Bool.and_eq_true, decide_eq_true_iff] at h
    left
    rcases mk_len h.2 with h2 | h2
    · simp only [List.length_cons, Int.natCast_add]; omega
    · subst h2; simp; omega
theorem mark_cases (n : Int) (l : List Int) (k : Int) : (askM n l k ≠ 0 ∧ markE n l k = askM n l k ∧ markV n l k = [] ∧ clearE n l k = askM n l k ∧ clearV n l k = []) ∨
    (askM n l k = 0 ∧ k ∈ l ∧ markE n l k = 170 ∧ markV n l k = [] ∧ clearE n l k = 0 ∧ clearV n l k = delL l k) ∨
    (askM n l k = 0 ∧ k ∉ l ∧ markE n l k = 0 ∧ markV n l k = insL l k ∧ clearE n l k = 6 ∧ clearV n l k = []) := by
  unfold markV clearV markE clearE
  by_cases h : askM n l k = 0
  · rw [if_pos h, if_pos h]
    by_cases hk : k ∈ l
    · rw [if_pos hk, if_pos hk]
      exact .inr (.inl ⟨h, hk, rfl, rfl, rfl, rfl⟩)
    · rw [if_neg hk, if_neg hk]
      exact .inr (.inr ⟨h, hk, rfl, rfl, rfl, rfl⟩)
  · rw [if_neg h, if_neg h, if_neg h, if_neg h]
    exact .inl ⟨h, rfl, rfl, rfl, rfl⟩
theorem ask_ins {n : Int} {l : List Int} {j k : Int} (h : askM n l j = 0) (hj : j ∉ l) (hk : 0 ≤ k ∧ k < n) : askM n (insL l j) k = 0 := by
  obtain ⟨⟨h1, h2⟩, h3⟩ := askM_0.1 h
  obtain ⟨h4, h5⟩ := mk_iff.1 h3
  refine askM_0.2 ⟨⟨h1, hk⟩, mk_iff.2 ⟨fun x hx => ?_, insL_sorted h5 hj⟩⟩
  rcases mem_insL.1 hx with rfl | hx
  · omega
  · exact h4 x hx
theorem ask_del {n : Int} {l : List Int} {j k : Int} (h : askM n l j = 0) (hj : j ∈ l) (hk : 0 ≤ k ∧ k < n) : askM n (delL l j) k = 0 := by
  obtain ⟨⟨h1, h2⟩, h3⟩ := askM_0.1 h
  obtain ⟨h4, h5⟩ := mk_iff.1 h3
  refine askM_0.2 ⟨⟨h1, hk⟩, mk_iff.2 ⟨fun x hx => ?_, delL_sorted h5 hj⟩⟩
  exact h4 x ((mem_delL h5 hj).1 hx).1
/-- Mark and Clear undo each other; two marks in either order. -/
theorem del_ins {l : List Int} (h : l.Pairwise (· < ·)) {j : Int} (hj : j ∉ l) : delL (insL l j) j = l := by
  have h1 := insL_sorted h hj
  have h2 : j ∈ insL l j := mem_insL.2 (.inl rfl)
  refine sorted_ext (delL_sorted h1 h2) h (fun x => ?_)
  rw [mem_delL h1 h2, mem_insL]
  constructor
  · rintro ⟨h3 | h3, h4⟩
    · exact absurd h3 h4
    · exact h3
  · intro h3
    exact ⟨.inr h3, fun e => hj (e ▸ h3)⟩
theorem ins_del {l : List Int} (h : l.Pairwise (· < ·)) {j : Int} (hj : j ∈ l) : insL (delL l j) j = l := by
  have h1 := delL_sorted h hj
  have h2 : j ∉ delL l j := fun h3 => ((mem_delL h hj).1 h3).2 rfl
  refine sorted_ext (insL_sorted h1 h2) h (fun x => ?_)
  rw [mem_insL, mem_delL h hj]
  constructor
  · rintro (rfl | h3)
    · exact hj
    · exact h3.1
  · intro h3
    by_cases e : x = j
    · exact .inl e
    · exact .inr ⟨h3, e⟩
theorem ins_ins {l : List Int} (h : l.Pairwise (· < ·)) {j k : Int} (hj : j ∉ l) (hk : k ∉ l) (hjk : j ≠ k) : insL (insL l j) k = insL (insL l k) j := by
  have h1 : k ∉ insL l j := fun e => by rcases mem_insL.1 e with e | e; exact hjk e.symm; exact hk e
  have h2 : j ∉ insL l k := fun e => by rcases mem_insL.1 e with e | e; exact hjk e; exact hj e
  refine sorted_ext (insL_sorted (insL_sorted h hj) h1) (insL_sorted (insL_sorted h hk) h2) (fun x => ?_)
  simp only [mem_insL]
  constructor
  · rintro (h3 | h3 | h3)
    · exact .inr (.inl h3)
    · exact .inl h3
    · exact .inr (.inr h3)
  · rintro (h3 | h3 | h3)
    · exact .inr (.inl h3)
    · exact .inl h3
    · exact .inr (.inr h3)
/-- As the document lays one more. -/
def wl (k : Int) : List Int → List Int
  | [] => [k]
  | x :: r => if k < x then k :: x :: r else x :: wl k r
theorem wl_split (k : Int) : ∀ (a b : List Int), (∀ x ∈ a, x < k) → (∀ x ∈ b, k < x) → wl k (a ++ b) = a ++ k :: b
  | [], [], _, _ => rfl
  | [], y :: b, _, h => by rw [List.nil_append, wl, if_pos (h y (List.mem_cons_self ..))]; rfl
  | x :: a, b, h1, h2 => by
    have := h1 x (List.mem_cons_self ..)
    rw [List.cons_append, wl, if_neg (by omega), wl_split k a b (fun y hy => h1 y (List.mem_cons_of_mem _ hy)) h2]; rfl
theorem wl_eq {l : List Int} (h : l.Pairwise (· < ·)) {k : Int} (hk : k ∉ l) : wl k l = insL l k := by
  have e := wl_split k (l.take (lb l k)) (l.drop (lb l k)) (take_lb h k) (fun x hx => by
    have := drop_lb h k x hx
    have : x ≠ k := fun e => hk (by rw [← e]; exact List.mem_of_mem_drop hx)
    omega)
  rwa [List.take_append_drop] at e
end

section
open Go.RowKit Go.Shelf

theorem ic_at {l : List Int} {k : Nat} (h : k < l.length) : (ic l)[k]? = some (.int .i64 l[k]) := by simp [ic, h]
/-- A list of numbers that lies somewhere. -/
structure IIn (w : World) (base : Option Addr) (l : List Int) : Prop where
  rd : Rd w base (ic l)
  len : l.length ≤ 30000
theorem IIn.keep {w W : World} {base : Option Addr} {l : List Int} (h : IIn w base l) (hb : Below w.heap.size w W) : IIn W base l := ⟨h.rd.keep hb, h.len⟩
theorem IIn.at {w : World} {base : Option Addr} {l : List Int} (h : IIn w base l) {k : Nat} (hk : k < l.length) : ∃ b off, base = some ⟨b, off, none⟩ ∧ w.cell? ⟨b, off + k, none⟩ = some (.int .i64 l[k]) ∧ b < w.heap.size := by
  obtain ⟨b, off, e, hc⟩ := h.rd _ _ (ic_at hk)
  exact ⟨b, off, e, hc, World.block_lt_of_cell? w _ hc⟩

set_option maxRecDepth 100000 in set_option maxHeartbeats 4000000 in
theorem cmp_isNaN (x : Int) (w : World) : Calls Tryd.prog 117 #[.int .i64 x] w (RB w (.bool false)) := by
  go_enter Tryd.func117, Tryd.ntmps117
  go_wp2
  go_returns
  exact ⟨by simp, by (repeat (first | (with_reducible exact Below.refl _ _) | (with_reducible assumption) | (with_reducible refine below_alloc ?_ _) | (with_reducible refine below_drewN ?_ _) | (with_reducible refine Below.drew ?_) | (with_reducible refine below_then ?_ (by with_reducible assumption)) | (with_reducible refine Below.setCell ?_ (by go_size) _)))⟩
set_option maxRecDepth 100000 in set_option maxHeartbeats 4000000 in
theorem slices_isNaN (x : Int) (w : World) : Calls Tryd.prog 80 #[.int .i64 x] w (RB w (.bool false)) := by
  go_enter Tryd.func80, Tryd.ntmps80
  go_wp2
  go_returns
  exact ⟨by simp, by (repeat (first | (with_reducible exact Below.refl _ _) | (with_reducible assumption) | (with_reducible refine below_alloc ?_ _) | (with_reducible refine below_drewN ?_ _) | (with_reducible refine Below.drew ?_) | (with_reducible refine below_then ?_ (by with_reducible assumption)) | (with_reducible refine Below.setCell ?_ (by go_size) _)))⟩
set_option maxRecDepth 100000 in set_option maxHeartbeats 4000000 in
theorem cmp_Less (x y : Int) (w : World) : Calls Tryd.prog 79 #[.int .i64 x, .int .i64 y] w (RB w (.bool (decide (x < y)))) := by
  have H1 := Lib.hid (fun W => cmp_isNaN x W)
  cases hd : decide (x < y)
  · have h' : ¬ x < y := of_decide_eq_false hd
    go_enter Tryd.func79, Tryd.ntmps79
    go_wp2_with fail
    refine (H1.out _).mono ?_
    rintro e w1 ⟨rfl, hb1⟩
    go_wp2_with fail
    go_returns
    exact ⟨rfl, hb1⟩
  · have h' : x < y := of_decide_eq_true hd
    go_enter Tryd.func79, Tryd.ntmps79
    go_wp2_with fail
    refine (H1.out _).mono ?_
    rintro e w1 ⟨rfl, hb1⟩
    go_wp2_with fail
    go_returns
    exact ⟨rfl, hb1⟩

set_option maxRecDepth 100000 in set_option maxHeartbeats 4000000 in
theorem bsearch (base : Option Addr) (cap : Nat) (l : List Int) (a : Int) (w : World) (hl : IIn w base l) (hs : l.Pairwise (· < ·)) :
    Calls Tryd.prog 51 #[.slice base l.length cap, .int .i64 a] w (RB w (.tuple #[.int .i64 (lb l a : Nat), .bool (decide (a ∈ l))])) := by
  have HC := Lib.hid hl
  have hlen := hl.len
  have HI := Lib.hid (fun (k : Nat) (hk : k < l.length) => lb_iff hs a hk)
  have HA := Lib.hid (lb_at hs a)
  have hal := lb_le l a
  have HL := Lib.hid (fun x y W => cmp_Less x y W)
  have HN := Lib.hid (fun x W => slices_isNaN x W)
  clear hl hs
  obtain ⟨n, hn⟩ : ∃ n, n = lb l a := ⟨_, rfl⟩
  rw [← hn] at hal ⊢
  have HI := Lib.hid (fun k hk => by have := HI.out k hk; rw [← hn] at this; exact this)
  have HM := Lib.hid (show ∀ hj : n < l.length, decide (a ∈ l) = decide (l[n] = a) from fun hj => by
    subst hn
    rw [Bool.eq_iff_iff, decide_eq_true_iff, decide_eq_true_iff, HA.out]
    exact ⟨fun ⟨_, e⟩ => e, fun e => ⟨hj, e⟩⟩)
  have HM0 := Lib.hid (show l.length ≤ n → decide (a ∈ l) = false from fun hj => by
    subst hn
    rw [decide_eq_false_iff_not, HA.out]
    rintro ⟨h, _⟩
    omega)
  clear hn HA
  generalize decide (a ∈ l) = z at *
  go_enter Tryd.func51, Tryd.ntmps51
  go_wp2_with fail
  go_loopw [7, 8] (fun x y wr => ∃ i j : Nat, i ≤ n ∧ n ≤ j ∧ j ≤ l.length ∧ x = .int .i64 i ∧ y = .int .i64 j ∧ Below w.heap.size w wr) (fun x y _ => (intOf y).toNat - (intOf x).toNat)
  case atStart => exact ⟨0, l.length, by omega, by omega, by omega, rfl, rfl, Below.refl _ _⟩
  case round =>
    obtain ⟨i, j, h1, h2, h3, rfl, rfl, hbel⟩ := hrel
    have HB := Lib.hid hbel
    clear hbel
    by_cases hlt : i < j
    · obtain ⟨h, hh⟩ : ∃ h, h = (i + j) / 2 := ⟨_, rfl⟩
      have hk : h < l.length := by omega
      obtain ⟨b, off, rfl, c0, hbl⟩ := (HC.out.keep HB.out).at hk
      have hi := Lib.hid (HI.out h hk)
      obtain ⟨s, hsl⟩ : ∃ s, s = l[h] := ⟨_, rfl⟩
      rw [← hsl] at c0 hi
      clear hsl
      have e1 : ((i : Int) + (j : Int)) / 2 = ((h : Nat) : Int) := by omega
      by_cases hle : s < a
      · have HM2 := Lib.hid (fun W => Calls.rb_eq (HL.out s a W) (congrArg Value.bool (decide_eq_true hle)))
        have hlt2 := hi.out.1 hle
        clear hi hle hh
        go_wp2_with ((with_reducible refine (HM2.out _).mono ?_); rintro e w1 ⟨rfl, hb1⟩; (obtain ⟨hc1, hf1⟩ := bcell hb1; have hz1 := hb1.size; (try simp at hz1)))
        go_roundw
        case rel => exact ⟨h + 1, j, by omega, by omega, by omega, by go_num, rfl, below_then HB.out hb1⟩
        case measure => (simp [intOf] <;> omega)
      · have HM2 := Lib.hid (fun W => Calls.rb_eq (HL.out s a W) (congrArg Value.bool (decide_eq_false hle)))
        have hge : n ≤ h := by
          rcases Nat.lt_or_ge h n with h5 | h5
          · exact absurd (hi.out.2 h5) hle
          · exact h5
        clear hi hle hh
        go_wp2_with ((with_reducible refine (HM2.out _).mono ?_); rintro e w1 ⟨rfl, hb1⟩; (obtain ⟨hc1, hf1⟩ := bcell hb1; have hz1 := hb1.size; (try simp at hz1)))
        go_roundw
        case rel => exact ⟨i, h, by omega, by omega, by omega, rfl, rfl, below_then HB.out hb1⟩
        case measure => (simp [intOf] <;> omega)
    · have hin : i = n := by omega
      subst hin
      have hij : i = j := by omega
      subst hij
      by_cases hend : i < l.length
      · obtain ⟨b, off, rfl, c0, hbl⟩ := (HC.out.keep HB.out).at hend
        have hz := Lib.hid (HM.out hend)
        obtain ⟨s, hsl⟩ : ∃ s, s = l[i] := ⟨_, rfl⟩
        rw [← hsl] at c0 hz
        clear hsl
        have HN1 := Lib.hid (fun W => HN.out s W)
        by_cases he : s = a
        · have heq : (s == a) = true := by simpa using he
          have hz2 := Lib.hid (hz.out.trans (decide_eq_true he))
          clear hz he
          go_wp2_with fail
          go_returns
          exact ⟨by rw [hz2.out]; rfl, HB.out⟩
        · have heq : (s == a) = false := by simpa using he
          have hz2 := Lib.hid (hz.out.trans (decide_eq_false he))
          clear hz he
          go_wp2_with fail
          refine (HN1.out _).mono ?_
          rintro e w3 ⟨rfl, hb3⟩
          go_wp2_with fail
          go_returns
          exact ⟨by rw [hz2.out]; rfl, below_then HB.out hb3⟩
      · have hz := Lib.hid (HM0.out (by omega))
        go_wp2_with fail
        go_returns
        exact ⟨by rw [hz.out]; rfl, HB.out⟩
end
end
end Go.Proofs.YthabpiphfaedaaaDoor
