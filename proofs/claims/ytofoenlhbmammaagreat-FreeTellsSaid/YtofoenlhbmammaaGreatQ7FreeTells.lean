/- SORTED lists: sorted in place; lists that rise. -/
import Derived.Test.YtofoenlhbmammaaGreatProg
import Derived.IntWalk
import Derived.Lib.SliceRun
import Derived.Shelf.Sort.Plain
import Derived.Lib.SortBridge
import Derived.Test.YtofoenlhbmammaaGreatQ2FreeTells
import Derived.Test.YtofoenlhbmammaaGreatQ3FreeTells
import Derived.Test.YtofoenlhbmammaaGreatQ4FreeTells
import Derived.Test.YtofoenlhbmammaaGreatQ0Ref1
import Derived.Test.YtofoenlhbmammaaGreatShelfSort
namespace Go.Proofs.YtofoenlhbmammaaGreat

section
section
open Go.RowKit Go.Shelf

/-- A box's midplanes below k, rising. -/
def Bx.upto (d : V3) (b : Bx) (k : Nat) : List Int := ((List.range k).map (fun (j : Nat) => (j : Int))).filter (b.has d)
def Bx.all (d : V3) (b : Bx) : List Int := b.upto d d.n.toNat
theorem Bx.upto_succ (d : V3) (b : Bx) (k : Nat) : b.upto d (k + 1) = if b.has d k then b.upto d k ++ [(k : Int)] else b.upto d k := by
  simp only [Bx.upto, List.range_succ, List.map_append, List.map_cons, List.map_nil, List.filter_append, List.filter_cons, List.filter_nil]
  split <;> simp
theorem Bx.upto_len (d : V3) (b : Bx) (k : Nat) : (b.upto d k).length ≤ k := by
  have := List.length_filter_le (b.has d) ((List.range k).map (fun (j : Nat) => (j : Int)))
  simpa [Bx.upto] using this

set_option maxRecDepth 100000 in set_option maxHeartbeats 4000000 in
theorem ref02_All (d : V3) (b : Bx) (w : World) (h : d.may) (hb : b.may d) : Calls Tryz.prog 97 #[.agg #[.int .i64 d.x, .int .i64 d.y, .int .i64 d.z], .agg #[.int .i64 b.b.x, .int .i64 b.b.y, .int .i64 b.b.z, .int .i64 b.s.x, .int .i64 b.s.y, .int .i64 b.s.z]] w (RI w (b.all d)) := by
  have hn := V3.n_le h
  obtain ⟨i0, hi, iz0, iz1, iz2⟩ := info_parts infoInt
  have H := Lib.hid h
  have HB := Lib.hid hb
  clear h hb
  go_enter Tryz.func97, Tryz.ntmps97
  go_wp2_with fail
  go_loopw [5, 6] (fun v i wr => ∃ k : Nat, (k : Int) ≤ d.n ∧ i = .int .i64 k ∧ wr.ownsRow (w.heap.size + 2) 3 1 v (b.upto d k).length ((b.upto d k).map (Value.int .i64)) ∧ Below w.heap.size w wr ∧ w.heap.size + 2 ≤ wr.heap.size ∧ DimsAt wr w.heap.size d ∧ BxAt wr (w.heap.size + 1) b) (fun _ i _ => d.n.toNat - (intOf i).toNat)
  case atStart => exact ⟨0, by omega, rfl, World.ownsRow_nil _ _ _ _, by (repeat (first | (with_reducible exact Below.refl _ _) | (with_reducible assumption) | (with_reducible refine below_alloc ?_ _) | (with_reducible refine below_drewN ?_ _) | (with_reducible refine Below.drew ?_) | (with_reducible refine below_then ?_ (by with_reducible assumption)) | (with_reducible refine Below.setCell ?_ (by go_size) _))), by simp, by constructor <;> simp [go_sem], by constructor <;> simp [go_sem]⟩
  case round =>
    obtain ⟨k, hk, rfl, hown, hbel, hsz, hD, hBx⟩ := hrel
    obtain ⟨d0, d1, d2⟩ := hD
    obtain ⟨b0, b1, b2, b3, b4, b5⟩ := hBx
    have hup := Lib.hid (Bx.upto_succ d b k)
    have hul := Bx.upto_len d b k
    go_wp2_with fail
    refine (ref01_N d _ H.out).mono ?_
    rintro e w1 ⟨rfl, hb1⟩
    have o1 := own_keep hown hb1
    have e1 := below_then hbel hb1
    obtain ⟨d0, d1, d2⟩ := (DimsAt.mk d0 d1 d2).keep hb1 (by omega)
    obtain ⟨b0, b1, b2, b3, b4, b5⟩ := (BxAt.mk b0 b1 b2 b3 b4 b5).keep hb1 (by omega)
    have hz1 := hb1.size
    clear hown
    by_cases hlt : (k : Int) < d.n
    · go_wp2_with fail
      refine (ref02_In d b k _ H.out HB.out (by omega) (by omega)).mono ?_
      rintro e w2 ⟨rfl, hb2⟩
      have o2 := own_keep o1 hb2
      have e2 := below_then e1 hb2
      obtain ⟨d0, d1, d2⟩ := (DimsAt.mk d0 d1 d2).keep hb2 (by omega)
      obtain ⟨b0, b1, b2, b3, b4, b5⟩ := (BxAt.mk b0 b1 b2 b3 b4 b5).keep hb2 (by omega)
      have hz2 := hb2.size
      clear o1 e1
      cases hh : b.has d k with
      | false =>
        have hu2 : b.upto d (k + 1) = b.upto d k := by rw [hup.out, hh]; rfl
        have hu2 := Lib.hid hu2
        go_wp2_with fail
        go_roundw
        case rel => exact ⟨k + 1, by omega, by go_num, by rw [hu2.out]; exact o2, e2, by omega, ⟨d0, d1, d2⟩, ⟨b0, b1, b2, b3, b4, b5⟩⟩
        case measure => simp [intOf]; omega
      | true =>
        have hu2 : b.upto d (k + 1) = b.upto d k ++ [(k : Int)] := by rw [hup.out, hh]; rfl
        have hu2 := Lib.hid hu2
        go_wp2_with (at_builtin; refine wpList_append_own _ rfl _ _ 83 rfl (w.heap.size + 2) 3 i0 (.int .i64 0) 1 8 Tryz.underlying83 hi iz0 iz1 iz2 rfl (by decide) _ _ _ rfl ((o2).alloc _) ⟨_, 0, none⟩ 1 1 [.int .i64 (k)] rfl rfl (cell_new1 _ _ _) (by simp [Value.oneCell']) ?ap3 ?ap4 ?ap5 ?_)
        case ap3 => unfold maxLen; omega
        case ap4 => omega
        case ap5 => simp; omega
        intro v' w3 o3 hg3 _
        have n3 := own_below (o2.alloc _) hg3 (by simp; omega)
        have s3 := n3.size
        have m3 := ((Below.refl w2.heap.size w2).alloc (Nat.le_refl _) _).mono (show w.heap.size + 2 ≤ w2.heap.size by omega) |>.trans n3
        have e3 : Below w.heap.size w w3 := e2.trans (m3.mono (by omega))
        obtain ⟨d0, d1, d2⟩ := (DimsAt.mk d0 d1 d2).keep m3 (by omega)
        obtain ⟨b0, b1, b2, b3, b4, b5⟩ := (BxAt.mk b0 b1 b2 b3 b4 b5).keep m3 (by omega)
        simp at s3
        clear m3 n3
        go_wp2_with fail
        go_roundw
        case rel => exact ⟨k + 1, by omega, by go_num, by rw [hu2.out]; simpa using o3, e3, by omega, ⟨d0, d1, d2⟩, ⟨b0, b1, b2, b3, b4, b5⟩⟩
        case measure => simp [intOf]; omega
    · obtain rfl : k = d.n.toNat := by omega
      clear hup
      go_wp2_with fail
      go_returns
      exact ⟨_, rfl, own_mono o1 (by omega), e1⟩

theorem chk2_of {d : V3} {a b : Bx} (h : chk d a = 0) : chk2 d a b = chk d b := by
  unfold chk chk2 okIf at *
  by_cases hd : d.may
  · simp only [if_pos hd] at *
    by_cases ha : a.may d
    · simp [ha]
    · rw [if_neg ha] at h; omega
  · simp only [if_neg hd]
theorem chk2_no {d : V3} {a b : Bx} (h : ¬ chk d a = 0) : chk2 d a b = chk d a := by
  unfold chk chk2 okIf at *
  by_cases hd : d.may
  · simp only [if_pos hd] at *
    by_cases ha : a.may d
    · simp [ha] at h
    · simp [ha]
  · simp only [if_neg hd]

end

section
open Go.RowKit Go.Shelf

theorem Bx.mem_all {d : V3} {b : Bx} {m : Int} : m ∈ b.all d ↔ (0 ≤ m ∧ m < d.n) ∧ b.has d m = true := by
  simp only [Bx.all, Bx.upto, List.mem_filter, List.mem_map, List.mem_range]
  constructor
  · rintro ⟨⟨a, ha, rfl⟩, h⟩
    exact ⟨⟨by omega, by omega⟩, h⟩
  · rintro ⟨⟨h0, h1⟩, h⟩
    exact ⟨⟨m.toNat, by omega, by omega⟩, h⟩

/-- A test of a list's first numbers. -/
def anyTo (q : Int → Bool) (l : List Int) (k : Nat) : Bool := (l.take k).any q
theorem anyTo_zero (q : Int → Bool) (l : List Int) : anyTo q l 0 = false := by simp [anyTo]
theorem anyTo_succ (q : Int → Bool) (l : List Int) (k : Nat) (h : k < l.length) : anyTo q l (k + 1) = (anyTo q l k || q l[k]) := by
  unfold anyTo; rw [List.take_succ_eq_append_getElem h, List.any_append]; simp
theorem anyTo_all (q : Int → Bool) (l : List Int) : anyTo q l l.length = l.any q := by simp [anyTo]
theorem any_of_anyTo (q : Int → Bool) (l : List Int) (k : Nat) (h : k < l.length) (hq : q l[k] = true) : l.any q = true := by
  rw [List.any_eq_true]; exact ⟨_, List.getElem_mem h, hq⟩

def refMeet (d : V3) (a b : Bx) : Bool := decide (chk2 d a b = 0) && (a.all d).any (b.has d)
def refWithin (d : V3) (a b : Bx) : Bool := decide (chk2 d a b = 0) && !(a.all d).any (fun m => !b.has d m)
theorem refMeet_ok {d : V3} {a b : Bx} (h : chk2 d a b = 0) : refMeet d a b = (a.all d).any (b.has d) := by simp [refMeet, h]
theorem refMeet_no {d : V3} {a b : Bx} (h : ¬ chk2 d a b = 0) : refMeet d a b = false := by simp [refMeet, h]

theorem chk2_0' {d : V3} {a b : Bx} (h : chk2 d a b = 0) : d.may ∧ a.may d ∧ b.may d := by
  unfold chk2 okIf at h
  by_cases hd : d.may
  · rw [if_pos hd] at h
    by_cases hab : a.may d ∧ b.may d
    · exact ⟨hd, hab⟩
    · rw [if_neg hab] at h; omega
  · rw [if_neg hd] at h; omega

theorem refWithin_ok {d : V3} {a b : Bx} (h : chk2 d a b = 0) : refWithin d a b = !(a.all d).any (fun m => !b.has d m) := by simp [refWithin, h]
theorem refWithin_no {d : V3} {a b : Bx} (h : ¬ chk2 d a b = 0) : refWithin d a b = false := by simp [refWithin, h]
end
end

section
section
open Go.RowKit Go.Shelf

def ic (l : List Int) : List Value := l.map (Value.int .i64)
theorem ic_len (l : List Int) : (ic l).length = l.length := by simp [ic]
theorem ic_app (a b : List Int) : ic (a ++ b) = ic a ++ ic b := by simp [ic]
theorem ic_one (l : List Int) : ∀ u ∈ ic l, u.oneCell' = true := by
  intro u hu
  obtain ⟨x, _, rfl⟩ := List.mem_map.1 hu
  rfl
/-- A new list is handed back; nothing that was there has turned. -/
def RL (w : World) (l : List Int) : Ending → World → Prop := fun e w' => ∃ v, e = .returned v ∧ w'.ownsRow w.heap.size 3 1 v l.length (ic l) ∧ Below w.heap.size w w'
end

section
open Go.RowKit Go.Shelf

/-- A list of integers that came in. -/
structure LIn (w : World) (base : Option Addr) (l : List Int) : Prop where
  rd : Rd w base (l.map (Value.int .i64))
  len : l.length ≤ 4611686018427387904
theorem LIn.keep {w W : World} {base : Option Addr} {l : List Int} (h : LIn w base l) (hb : Below w.heap.size w W) : LIn W base l := ⟨h.rd.keep hb, h.len⟩

/-- A new list of integers, and an error. -/
def RIE (w : World) (l : List Int) (x : Int) : Ending → World → Prop := fun e w' =>
  ∃ v, e = .returned (.tuple #[v, .int .i64 x]) ∧ w'.ownsRow w.heap.size 3 1 v l.length (l.map (Value.int .i64)) ∧ Below w.heap.size w w'


theorem list_of_own {W : World} {B : Nat} {v : Value} {l : List Int} (h : W.ownsRow B 3 1 v l.length (l.map (Value.int .i64))) (hl : l.length ≤ 4611686018427387904) :
    ∃ base cap, v = .slice base l.length cap ∧ LIn W base l ∧ l.length ≤ cap := by
  obtain ⟨base, cap, rfl, rd, hc⟩ := own_rd h
  exact ⟨base, cap, rfl, ⟨rd, hl⟩, hc⟩
end
end

section
open Go.RowKit Go.Shelf

set_option maxRecDepth 100000 in set_option maxHeartbeats 4000000 in
theorem ref02_Told (d : V3) (b : Bx) (w : World) : Calls Tryz.prog 96 #[.agg #[.int .i64 d.x, .int .i64 d.y, .int .i64 d.z], .agg #[.int .i64 b.b.x, .int .i64 b.b.y, .int .i64 b.b.z, .int .i64 b.s.x, .int .i64 b.s.y, .int .i64 b.s.z]] w (RB w (.agg #[.int .i64 (b.can d).b.x, .int .i64 (b.can d).b.y, .int .i64 (b.can d).b.z, .int .i64 (b.can d).s.x, .int .i64 (b.can d).s.y, .int .i64 (b.can d).s.z])) := by
  cases g0 : b.s.x == d.x <;> cases g1 : b.s.y == d.y <;> cases g2 : b.s.z == d.z
  all_goals
    have hq := Lib.hid (show b.can d = _ by simp only [Bx.can, g0, g1, g2, cond_true, cond_false]; rfl)
    rw [hq.out]
    go_enter Tryz.func96, Tryz.ntmps96
    go_wp2_with fail
    refine wp_loop_rounds 4 ?_
    go_wp2_with (first | (rw [rounds_succ]) | (refine wp_region_quiet_lit (by kernel_rfl) (by kernel_rfl) ?_; (repeat (any_goals (first | go_big_quiet_step (fail) | quiet_step (fail) | (refine wpQuiet_step (fun K hK => ?_); go_simp; split <;> (refine hK _ ?_; clear hK K))))); all_goals (refine wpQuiet_nil ?_; intro _ hw'; obtain ⟨nq, hw''⟩ := hw'; subst hw'')))
    refine bodyPost_ret ?_ rfl ⟨rfl, ?_⟩
    · simp [results, Tryz.f96, go_sem]
    · (repeat (first | (with_reducible exact Below.refl _ _) | (with_reducible assumption) | (with_reducible refine below_alloc ?_ _) | (with_reducible refine below_drewN ?_ _) | (with_reducible refine Below.drew ?_) | (with_reducible refine below_then ?_ (by with_reducible assumption)) | (with_reducible refine Below.setCell ?_ (by go_size) _)))

/-- All midplanes of a box that may be; none of one that may not. -/
def nodesV (d : V3) (b : Bx) : List Int := if chk d b = 0 then b.all d else []
/-- The error of a box and a midplane; whether the box has it. -/
def hasE (d : V3) (b : Bx) (m : Int) : Int := if chk d b = 0 then if 0 ≤ m ∧ m < d.n then 0 else 2 else chk d b
def hasB (d : V3) (b : Bx) (m : Int) : Bool := if hasE d b m = 0 then b.has d m else false
theorem hasE_0 {d : V3} {b : Bx} {m : Int} (h : hasE d b m = 0) : chk d b = 0 ∧ 0 ≤ m ∧ m < d.n := by
  unfold hasE at h
  by_cases hc : chk d b = 0
  · rw [if_pos hc] at h
    by_cases hm : 0 ≤ m ∧ m < d.n
    · exact ⟨hc, hm⟩
    · rw [if_neg hm] at h; omega
  · rw [if_neg hc] at h; exact absurd h hc
end

section
section
open Go.RowKit Go.Shelf Go.Sort

theorem own_setCells {base e g cap n : Nat} : ∀ (vs : List Value) (o : Nat) (w : World) (xs : List Value), w.ownsRow base e 1 (.slice (some ⟨g, 0, none⟩) n cap) n xs → o + vs.length ≤ n →
    (w.setCells g o vs).ownsRow base e 1 (.slice (some ⟨g, 0, none⟩) n cap) n (xs.take o ++ vs ++ xs.drop (o + vs.length))
  | [], o, w, xs, h, _ => by simpa [World.setCells] using h
  | v :: r, o, w, xs, h, hl => by
    have hlen := h.1
    simp only [List.length_cons] at hl
    have h1 := (h.stored o v).1
    have h2 := own_setCells r (o + 1) _ _ h1 (by omega)
    have e : (xs.set o v).take (o + 1) ++ r ++ (xs.set o v).drop (o + 1 + r.length) = xs.take o ++ (v :: r) ++ xs.drop (o + (v :: r).length) := by
      rw [List.take_succ_eq_append_getElem (by simp; omega), List.take_set_of_le (Nat.le_refl _), List.drop_set_of_lt (by omega)]
      simp [show o + 1 + r.length = o + (r.length + 1) by omega]
    rw [e] at h2
    exact h2
theorem below_setCells {B g : Nat} (hg : B ≤ g) : ∀ (vs : List Value) (o : Nat) (W w : World), Below B W w → Below B W (w.setCells g o vs)
  | [], _, _, _, h => h
  | v :: r, o, W, w, h => below_setCells hg r (o + 1) W _ (h.setCell (p := ⟨g, o, none⟩) hg v)
theorem below_grow {B : Nat} {W w : World} (h : Below B W w) (os : Array Obj) (hB : B ≤ W.heap.size) : Below B W (grow w os) :=
  ⟨h.os, h.tape, h.output, Nat.le_trans h.size (by simp [grow]), fun k hk => (heap_grow_old w os (Nat.lt_of_lt_of_le (Nat.lt_of_lt_of_le hk hB) h.size)).trans (h.block k hk)⟩
theorem own_grow {w : World} {base e size n : Nat} {v : Value} {xs : List Value} (h : w.ownsRow base e size v n xs) (os : Array Obj) : (grow w os).ownsRow base e size v n xs := by
  refine ⟨h.1, ?_⟩
  rcases h.2 with hn | ⟨g, cap, cur, rfl, hbg, hg, rest⟩
  · exact .inl hn
  · exact .inr ⟨g, cap, cur, rfl, hbg, (heap_grow_old w os (Array.getElem?_eq_some_iff.1 hg).1).trans hg, rest⟩

/-- The numbers, rising. -/
def sorted (l : List Int) : List Int := l.mergeSort fun x y => decide (x ≤ y)
theorem sorted_len (l : List Int) : (sorted l).length = l.length := by unfold sorted; exact List.length_mergeSort l

set_option maxRecDepth 100000 in set_option maxHeartbeats 4000000 in
theorem sort_own {B g cap : Nat} {l : List Int} {W : World} (h : W.ownsRow B 3 1 (.slice (some ⟨g, 0, none⟩) l.length cap) l.length (l.map (Value.int .i64))) (hB : B ≤ W.heap.size) (hl : l.length ≤ 1000000) :
    Calls Tryz.prog 112 #[.slice (some ⟨g, 0, none⟩) l.length cap] W fun e w' => e = .returned (.tuple #[]) ∧ w'.ownsRow B 3 1 (.slice (some ⟨g, 0, none⟩) l.length cap) l.length ((sorted l).map (Value.int .i64)) ∧ Below B W w' := by
  rcases h.2 with ⟨e, _⟩ | ⟨g', cap', cur, e, hbg, hg, _⟩
  · cases e
  cases e
  have hH : Holds (Value.int .i64) W g 0 l.toArray := by
    intro j hj
    have hj' : j < l.length := by simpa using hj
    refine ⟨?_, ?_⟩
    · rw [Nat.zero_add, h.cellAt j (by omega)]
      simp [hj']
    · rw [Nat.zero_add]; exact h.frozenAt j
  refine (Any.slices_Sort_int Tryz.laysSort g 0 cap l W hH (Array.getElem?_eq_some_iff.1 hg).1 (by omega)).mono ?_
  rintro e w' ⟨rfl, q, os, rfl⟩
  rw [show (l.mergeSort fun x y => decide (x ≤ y)) = sorted l from rfl]
  rw [Lib.sorted_world (Value.int .i64) W g 0 q l.toArray (sorted l) os hH (by simp [sorted_len])]
  refine ⟨rfl, own_grow ?_ os, below_grow (below_setCells hbg _ _ _ _ (below_drewN (Below.refl _ _) q)) os hB⟩
  have h0 : (W.drewN q).ownsRow B 3 1 (.slice (some ⟨g, 0, none⟩) l.length cap) l.length (l.map (Value.int .i64)) := h
  have h1 := own_setCells ((sorted l).map (Value.int .i64)) 0 _ _ h0 (by simp [sorted_len])
  rw [List.drop_of_length_le (by simp [sorted_len])] at h1
  simpa using h1
end

section
theorem rise_ext : ∀ {a b : List Int}, a.Pairwise (· < ·) → b.Pairwise (· < ·) → (∀ x, x ∈ a ↔ x ∈ b) → a = b
  | [], [], _, _, _ => rfl
  | [], y :: b, _, _, h => absurd ((h y).2 (List.mem_cons_self ..)) (by simp)
  | x :: a, [], _, _, h => absurd ((h x).1 (List.mem_cons_self ..)) (by simp)
  | x :: a, y :: b, ha, hb, h => by
    rw [List.pairwise_cons] at ha hb
    have hxy : x = y := by
      rcases List.mem_cons.1 ((h x).1 (List.mem_cons_self ..)) with e | e
      · exact e
      · rcases List.mem_cons.1 ((h y).2 (List.mem_cons_self ..)) with e2 | e2
        · exact e2.symm
        · have := hb.1 x e; have := ha.1 y e2; omega
    subst hxy
    rw [rise_ext ha.2 hb.2 (fun z => ?_)]
    constructor
    · intro hz
      rcases List.mem_cons.1 ((h z).1 (List.mem_cons_of_mem _ hz)) with e | e
      · have := ha.1 z hz; omega
      · exact e
    · intro hz
      rcases List.mem_cons.1 ((h z).2 (List.mem_cons_of_mem _ hz)) with e | e
      · have := hb.1 z hz; omega
      · exact e
theorem sorted_rise {l : List Int} (h : l.Nodup) : (sorted l).Pairwise (· < ·) := by
  have h1 : (sorted l).Pairwise (fun a b => decide (a ≤ b) = true) := List.pairwise_mergeSort (fun a b c h1 h2 => by simp at *; omega) (fun a b => by simp; omega) l
  have h2 : (sorted l).Nodup := (List.mergeSort_perm l _).nodup_iff.2 h
  exact (h1.and h2).imp (fun ⟨h3, h4⟩ => by simp at h3; omega)
end
end
end Go.Proofs.YtofoenlhbmammaaGreat
