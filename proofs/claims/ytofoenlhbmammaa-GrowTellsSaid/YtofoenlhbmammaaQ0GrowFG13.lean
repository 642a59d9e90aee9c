/- GROW: the canonical boxes, one after another; those that are free of a set: the code's. -/
import Derived.Deep.RegionHeld3
import Derived.Deep.RegionLaw
import Derived.RangeFuncNested
import Derived.RangeFuncBound
import Derived.RangeFuncCalls
import Derived.RangeFuncLeaves
import Derived.RangeFuncBox
import Derived.RangeFuncWrites
import Derived.Shelf.RegionOpen
import Derived.OwnWalkIn
import Derived.TacticsInMore
import Derived.LoopNIn
import Derived.LoopIn
import Derived.Test.YtofoenlhbmammaaQ0RoundG13
import Derived.Test.YtofoenlhbmammaaQ0PosCG13
import Derived.Test.YtofoenlhbmammaaQ0GrowAG13
import Derived.Test.YtofoenlhbmammaaQ0PlaceAG13
set_option linter.unusedVariables false
set_option linter.unusedSimpArgs false
namespace Go.Proofs.Ytofoenlhbmammaa

section
open Go.RowKit Go.Shelf
attribute [local go_sem] Oper.semAt_some

/-- What a round keeps: all below a block; and all cells but one block's, and boxes. -/
structure KpT (n₀ B : Nat) (W W' : World) : Prop where
  below : Below n₀ W W'
  cells : ∀ b cs t fr, b ≠ B → t ≠ 27 → W.heap[b]? = some (.cells cs t fr) → W'.heap[b]? = some (.cells cs t fr)
theorem kpT_t {n₀ B : Nat} {X Y Z : World} (h : KpT n₀ B X Y) (k : KpT n₀ B Y Z) : KpT n₀ B X Z := ⟨h.below.trans k.below, fun b cs t fr hb ht hc => k.cells b cs t fr hb ht (h.cells b cs t fr hb ht hc)⟩
theorem kpT_b {w : World} {n₀ B : Nat} (hn : n₀ ≤ w.heap.size) (W : World) (l : Nat) (o o' : Obj) (hl : w.heap.size ≤ l) (he : W.heap[l]? = some o) (h1 : o.isCells = false) (h2 : o.isWalk = false) : KpT n₀ B W (W.putObj l o') :=
  ⟨belowK_b hn W l o o' hl he h1 h2, fun b cs t fr hb ht hp => by
    by_cases e : b = l
    · subst e; rw [he] at hp; cases hp; cases h1
    · exact (World.putObj_heap_other (by omega)).trans hp⟩
theorem KpT.blk {n₀ B b : Nat} {W W' : World} {t : TypeId} {cs : Array Value} (h : KpT n₀ B W W') (hb : Blk W b t cs) (hne : b ≠ B) (ht : t ≠ 27) : Blk W' b t cs := h.cells b _ _ _ hne ht hb
theorem kpT_below {n₀ B : Nat} {W W' : World} (h : n₀ ≤ W.heap.size) (hb : Below W.heap.size W W') : KpT n₀ B W W' := ⟨hb.mono h, fun b _ _ _ _ _ hp => (hb.block b (Array.getElem?_eq_some_iff.1 hp).1).trans hp⟩
theorem kpT_set {n₀ B k : Nat} {W : World} (v : Value) (h : n₀ ≤ B) : KpT n₀ B W (W.setCell ⟨B, k, none⟩ v) :=
  ⟨(Below.refl n₀ W).setCell (p := ⟨B, k, none⟩) h v, fun b _ _ _ hb _ ho => (Below.heap_setCell W ⟨B, k, none⟩ v b hb).trans ho⟩
theorem own_type {w : World} {base size n : Nat} {e : TypeId} {v : Value} {xs : List Value} (h : w.ownsRow base e size v n xs) {b : Nat} (hb : v.ownBlock = some b) : base ≤ b ∧ ∃ cs, w.heap[b]? = some (.cells cs e (0, 0)) := by
  rcases h.2 with ⟨rfl, _⟩ | ⟨g, cap, cur, rfl, hg, hc, _⟩
  · cases hb
  · cases hb; exact ⟨hg, cur, hc⟩
theorem kpT_row {n₀ B base n : Nat} {W W' : World} {v : Value} {xs : List Value} (ho : W.ownsRow base 27 6 v n xs) (hg : W.grownBy W' v.ownBlock) (hn : n₀ ≤ base) (hs : n₀ ≤ W.heap.size) : KpT n₀ B W W' :=
  ⟨(Below.refl n₀ W).grown hg hs (fun k hk => Nat.le_trans hn (own_type ho hk).1), fun b cs t fr _ ht hp => by
    refine (hg.block b (Array.getElem?_eq_some_iff.1 hp).1 (fun e => ?_)).trans hp
    obtain ⟨_, cs', hc⟩ := own_type ho e.symm
    rw [hp] at hc
    cases hc
    exact ht rfl⟩
theorem kpT_own {n₀ B L : Nat} {X W W' : World} {row : Option Nat} (h : KpT n₀ B X W) (hg : W.grownBy W' row) (hr : ∀ r, row = some r → L ≤ r ∧ ∃ o : Obj, W.heap[r]? = some o ∧ o.isCells = false) (hL : n₀ ≤ L) (hn : n₀ ≤ X.heap.size) : KpT n₀ B X W' :=
  ⟨h.below.grown hg (Nat.le_trans hn h.below.size) (fun k e => Nat.le_trans hL (hr k e).1), fun b cs t fr hb ht hc => by
    have h1 := h.cells b cs t fr hb ht hc
    refine (hg.block b (Array.getElem?_eq_some_iff.1 h1).1 (fun e => ?_)).trans h1
    obtain ⟨_, p, hp, hpc⟩ := hr b e.symm
    rw [h1] at hp
    cases hp
    cases hpc⟩
theorem bx_own {W W' : World} {row : Option Nat} {B n : Nat} {v : Value} {xs : List Value} (h : W.ownsRow B 27 6 v n xs) (hg : W.grownBy W' row) (hr : ∀ r, row = some r → ∃ o : Obj, W.heap[r]? = some o ∧ o.isCells = false) : W'.ownsRow B 27 6 v n xs := by
  refine h.kept hg ?_
  cases hv : v.ownBlock with
  | none => exact .inl rfl
  | some g =>
    right
    intro e
    obtain ⟨o, ho, hc⟩ := hr g e.symm
    obtain ⟨_, cs, hg'⟩ := own_type h hv
    rw [ho] at hg'
    cases hg'
    cases hc
theorem bx_oth {w : World} {B g j : Nat} {v u : Value} {n : Nat} {xs : List Value} {e : TypeId} {size : Nat} (h : w.ownsRow B e size v n xs) (hne : v.ownBlock ≠ some g) : (w.setCell ⟨g, j, none⟩ u).ownsRow B e size v n xs :=
  h.kept (row := some g) ⟨rfl, rfl, rfl, by simp, fun k _ hk => heap_setCell_other w ⟨g, j, none⟩ k u (fun e => hk (by simp [e]))⟩ (by
    cases hv : v.ownBlock with
    | none => exact .inl rfl
    | some x => exact .inr (by rw [← hv]; exact hne))
theorem grownG {W W' : World} (hb : Below W.heap.size W W') : W.grownBy W' none := ⟨hb.os, hb.tape, hb.output, hb.size, fun k hk _ => hb.block k hk⟩
theorem keepsG {W W' : World} (hb : Below W.heap.size W W') : KeepsOthers W W' := ⟨hb.size, fun k o hk _ => (hb.block k (Array.getElem?_eq_some_iff.1 hk).1).trans hk⟩

/-! ### the list, part by part -/
theorem boxesOf_pre (d : V3) (m : Nat) {k N : Nat} (h : k ≤ N) : boxesOf d m k <+: boxesOf d m N := by
  induction N with
  | zero => obtain rfl : k = 0 := by omega
            exact List.prefix_rfl
  | succ N ih =>
    by_cases e : k = N + 1
    · rw [e]; exact List.prefix_rfl
    · rw [boxesOf_succ]
      exact (ih (by omega)).trans (List.prefix_append _ _)
theorem boxesTo_pre (d : V3) {k N : Nat} (h : k ≤ N) : boxesTo d k <+: boxesTo d N := by
  induction N with
  | zero => obtain rfl : k = 0 := by omega
            exact List.prefix_rfl
  | succ N ih =>
    by_cases e : k = N + 1
    · rw [e]; exact List.prefix_rfl
    · rw [boxesTo_succ]
      exact (ih (by omega)).trans (List.prefix_append _ _)
theorem boxes_pre {d : V3} {m k : Nat} (hm : m < d.n.toNat) (hk : k ≤ d.n.toNat) : boxesTo d m ++ boxesOf d m k <+: allBx d := by
  have h1 := boxesTo_pre d (show m + 1 ≤ d.n.toNat by omega)
  rw [boxesTo_succ] at h1
  exact ((List.prefix_append_right_inj _).2 (boxesOf_pre d m hk)).trans h1
theorem boxes_here {d : V3} {m k : Nat} (hm : m < d.n.toNat) (hk : k < d.n.toNat) (hc : canB d (szB d m k) = true) : boxesTo d m ++ boxesOf d m k ++ [szB d m k] = boxesTo d m ++ boxesOf d m (k + 1) ∧ boxesTo d m ++ boxesOf d m k ++ [szB d m k] <+: allBx d ∧ (boxesTo d m ++ boxesOf d m k).length < (allBx d).length := by
  have e : boxesTo d m ++ boxesOf d m k ++ [szB d m k] = boxesTo d m ++ boxesOf d m (k + 1) := by rw [boxesOf_succ, hc, if_pos rfl, List.append_assoc]
  have h := boxes_pre hm (show k + 1 ≤ d.n.toNat by omega)
  rw [← e] at h
  refine ⟨e, h, ?_⟩
  have := h.length_le
  rw [List.length_append, List.length_cons] at this
  omega
theorem boxes_skip {d : V3} {m k : Nat} (hc : canB d (szB d m k) = false) : boxesTo d m ++ boxesOf d m k = boxesTo d m ++ boxesOf d m (k + 1) := by rw [boxesOf_succ, hc, if_neg (by decide), List.append_nil]
theorem boxes_len {d : V3} (h : d.n ≤ 64) : (allBx d).length ≤ 4096 := by
  have h1 : ∀ m k, (boxesOf d m k).length ≤ k := fun m k => by
    unfold boxesOf
    exact Nat.le_trans (List.length_filter_le _ _) (by simp)
  have h2 : ∀ k, (boxesTo d k).length ≤ k * 64 := fun k => by
    induction k with
    | zero => exact Nat.zero_le _
    | succ k ih =>
      rw [boxesTo_succ, List.length_append]
      have := h1 k d.n.toNat
      omega
  have := h2 d.n.toNat
  unfold allBx
  omega
def encX (b : Bx) : Array Value := #[.agg #[.int .i64 b.b.x, .int .i64 b.b.y, .int .i64 b.b.z, .int .i64 b.s.x, .int .i64 b.s.y, .int .i64 b.s.z]]
set_option maxRecDepth 100000 in set_option maxHeartbeats 4000000 in
theorem boxes1_in (n : Nat) (hn : 1 ≤ n) (l Bn Bd B n₀ : Nat) (d : V3) (hm : d.may) (hBn : Bn ≠ B) (hBd : Bd ≠ B) (J Jx : List Bx → World → Prop)
    (hY : ∀ pre x W, J pre W → pre.length < (allBx d).length → YieldAt Fence.wide (n - 1) Try.prog l (encX x) W fun e W' =>
      (e = .returned (.bool true) ∧ J (pre ++ [x]) W' ∧ KpT n₀ B W W') ∨ (e = .returned (.bool false) ∧ Jx (pre ++ [x]) W'))
    (W : World) (hWs : B < W.heap.size) (hbn : Blk W Bn 3 #[.int .i64 d.n]) (hbd : Blk W Bd 23 #[.int .i64 d.x, .int .i64 d.y, .int .i64 d.z]) (hJ : AbidesFrom W.heap.size J) (hj0 : J [] W) :
    CallsIn Fence.wide n Try.prog 57 #[.func (.yield l) #[] #[], .pointer (some ⟨Bn, 0, none⟩), .pointer (some ⟨Bd, 0, none⟩)] W fun e W' => (∃ v, e = .returned v) ∧
      ((∃ ys, ys = allBx d ∧ J ys W') ∨ (∃ pre, pre <+: allBx d ∧ Jx pre W')) := by
  have HJ := Lib.hid (fun s X Y (h : J s X) (hb : Below X.heap.size X Y) => hJ s X Y none h (grownG hb) (fun r e => by cases e))
  have HY := Lib.hid hY
  have HO := Lib.hid (fun (m : Nat) (h : (m : Int) < d.n) W => pos_Of_ok d m W hm (Int.natCast_nonneg m) h)
  have HC := Lib.hid (fun (m i : Nat) (h1 : (m : Int) < d.n) (h2 : (i : Int) < d.n) W => box_Canon_ok d (szB d m i) W (chk_of hm (szB_may hm h1 h2)))
  have HX := Lib.hid (fun (m i : Nat) (h1 : (m : Int) < d.n) (h2 : (i : Int) < d.n) => szB_may hm h1 h2)
  have hnl := V3.n_le hm
  have HM := Lib.hid hm
  have n0 := hbn.cell 0 _ rfl
  have HN := Lib.hid hbn
  have HD := Lib.hid hbd
  clear hJ hY hbn hbd
  refine callsIn_of_wp Try.func57 rfl trivial ?_ rfl
  simp only [Try.ntmps57, List.size_toArray, List.length_cons, List.length_nil, Nat.reduceAdd, Nat.reduceSub, Array.replicate_succ, Array.replicate_zero, List.push_toArray, List.append_toArray, List.nil_append, List.cons_append]
  gi_wp2
  clear n0
  gi_loopw [12] (fun i wr => ∃ m : Nat, m ≤ d.n.toNat ∧ i = .int .i64 m ∧ J (boxesTo d m) wr ∧ Blk wr Bn 3 #[.int .i64 d.n] ∧ Blk wr Bd 23 #[.int .i64 d.x, .int .i64 d.y, .int .i64 d.z] ∧ B < wr.heap.size) (fun i _ => d.n.toNat - (intOf i).toNat)
  case atStart => exact ⟨0, Nat.zero_le _, rfl, hj0, HN.out, HD.out, hWs⟩
  case round =>
    clear HN HD hj0
    obtain ⟨m, hmm, rfl, hJs, hbn, hbd, hBs⟩ := hrel
    by_cases hlt : m < d.n.toNat
    · have hmd : (m : Int) < d.n := by omega
      have HJs := Lib.hid hJs
      have HN := Lib.hid hbn
      have HD := Lib.hid hbd
      have d0 := hbd.cell 0 _ rfl
      have d1 := hbd.cell 1 _ rfl
      have d2 := hbd.cell 2 _ rfl
      clear hJs hbn hbd
      gi_wp2
      refine ⟨trivial, ?_⟩
      refine (callsIn_wide.2 (HO.out m hmd _)).mono ?_
      rintro e w1 ⟨rfl, hb1⟩
      have HJ1 := Lib.hid (HJ.out _ _ _ HJs.out hb1)
      have HN1 := Lib.hid (HN.out.below hb1)
      have HD1 := Lib.hid (HD.out.below hb1)
      have hB1 : B < w1.heap.size := Nat.lt_of_lt_of_le hBs hb1.size
      clear d0 d1 d2 hb1 HJs HN HD hBs
      have d0 := (HD1.out.alloc (.cells #[.int .i64 (d.pos m).x, .int .i64 (d.pos m).y, .int .i64 (d.pos m).z] 22)).cell 0 _ rfl
      have d1 := (HD1.out.alloc (.cells #[.int .i64 (d.pos m).x, .int .i64 (d.pos m).y, .int .i64 (d.pos m).z] 22)).cell 1 _ rfl
      have d2 := (HD1.out.alloc (.cells #[.int .i64 (d.pos m).x, .int .i64 (d.pos m).y, .int .i64 (d.pos m).z] 22)).cell 2 _ rfl
      obtain ⟨⟨x1, x2⟩, ⟨y1, y2⟩, ⟨z1, z2⟩⟩ := HM.out
      have hxy : 1 ≤ d.x * d.y := Int.mul_pos (by omega) (by omega)
      have hxy2 : d.x * d.y ≤ 256 := Int.le_trans (Int.mul_le_mul x2 y2 (by omega) (by omega)) (by omega)
      have m1 : IntKind.i64.wrap (d.x * d.y) = d.x * d.y := IntWalk.i64_in _ (by omega)
      have m2 : IntKind.i64.wrap (d.x * d.y * d.z) = d.n := IntWalk.i64_in d.n (by omega)
      gi_wp2
      have HJ2 := Lib.hid (HJ.out _ _ _ HJ1.out (show Below w1.heap.size w1 (w1.alloc (.cells #[.int .i64 (d.pos m).x, .int .i64 (d.pos m).y, .int .i64 (d.pos m).z] 22)) by (repeat (first | (with_reducible exact Below.refl _ _) | (with_reducible assumption) | (with_reducible refine below_alloc ?_ _) | (with_reducible refine below_drewN ?_ _) | (with_reducible refine Below.drew ?_) | (with_reducible refine below_then ?_ (by with_reducible assumption)) | (with_reducible refine Below.setCell ?_ (by go_size) _)))))
      have HN2 := Lib.hid (HN1.out.alloc (.cells #[.int .i64 (d.pos m).x, .int .i64 (d.pos m).y, .int .i64 (d.pos m).z] 22))
      have HD2 := Lib.hid (HD1.out.alloc (.cells #[.int .i64 (d.pos m).x, .int .i64 (d.pos m).y, .int .i64 (d.pos m).z] 22))
      have HP2 := Lib.hid (Blk.new w1 22 #[.int .i64 (d.pos m).x, .int .i64 (d.pos m).y, .int .i64 (d.pos m).z])
      have hBP : w1.heap.size ≠ B := by omega
      clear d0 d1 d2 HJ1 HN1 HD1 m1 m2
      gi_loopw [29] (fun i wr => ∃ k : Nat, k ≤ d.n.toNat ∧ i = .int .i64 k ∧ J (boxesTo d m ++ boxesOf d m k) wr ∧ Blk wr Bn 3 #[.int .i64 d.n] ∧ Blk wr Bd 23 #[.int .i64 d.x, .int .i64 d.y, .int .i64 d.z] ∧ Blk wr w1.heap.size 22 #[.int .i64 (d.pos m).x, .int .i64 (d.pos m).y, .int .i64 (d.pos m).z] ∧ B < wr.heap.size) (fun i _ => d.n.toNat - (intOf i).toNat)
      case atStart => exact ⟨0, Nat.zero_le _, rfl, by rw [show boxesOf d m 0 = [] from rfl, List.append_nil]; exact HJ2.out, HN2.out, HD2.out, HP2.out, by simp; omega⟩
      case round =>
        clear HJ2 HN2 HD2 HP2
        obtain ⟨k, hk, rfl, hJs, hbn, hbd, hbp, hBs⟩ := hrel
        by_cases hlk : k < d.n.toNat
        · have hkd : (k : Int) < d.n := by omega
          have HJs := Lib.hid hJs
          have HN := Lib.hid hbn
          have HD := Lib.hid hbd
          have d0 := hbd.cell 0 _ rfl
          have d1 := hbd.cell 1 _ rfl
          have d2 := hbd.cell 2 _ rfl
          have hyz : 1 ≤ d.y * d.z := Int.mul_pos (by omega) (by omega)
          have hyz2 : d.y * d.z ≤ 256 := Int.le_trans (Int.mul_le_mul y2 z2 (by omega) (by omega)) (by omega)
          have hxm := HX.out m k hmd hkd
          have hcx := HC.out m k hmd hkd
          have hhere := Lib.hid (fun h => boxes_here (d := d) hlt hlk h)
          have hskip := Lib.hid (fun h => boxes_skip (d := d) (m := m) (k := k) h)
          have s1 : 1 + (k : Int) / (d.y * d.z) = (szB d m k).s.x := rfl
          have s2 : 1 + (k : Int) / d.z % d.y = (szB d m k).s.y := rfl
          have s3 : 1 + (k : Int) % d.z = (szB d m k).s.z := rfl
          have s4 : d.pos m = (szB d m k).b := rfl
          have hcb : canB d (szB d m k) = decide ((szB d m k).can d = szB d m k) := rfl
          rw [s4] at hbp
          obtain ⟨x, hx⟩ : ∃ x, x = szB d m k := ⟨_, rfl⟩
          rw [← hx] at hxm hcx hhere hskip s1 s2 s3 s4 hbp hcb
          have HXB := Lib.hid s4
          obtain ⟨⟨⟨u1, u2⟩, _⟩, ⟨⟨v1, v2⟩, _⟩, ⟨⟨t1, t2⟩, _⟩⟩ := hxm
          have HP := Lib.hid hbp
          have p0 := hbp.cell 0 _ rfl
          have p1 := hbp.cell 1 _ rfl
          have p2 := hbp.cell 2 _ rfl
          have a1 : IntKind.i64.wrap (d.y * d.z) = d.y * d.z := IntWalk.i64_in _ (by omega)
          have a2 : (k : Int).tdiv (d.y * d.z) = x.s.x - 1 := by rw [Int.tdiv_eq_ediv_of_nonneg (Int.natCast_nonneg k)]; omega
          have a3 : IntKind.i64.wrap (x.s.x - 1) = x.s.x - 1 := IntWalk.i64_in _ (by omega)
          have a4 : IntKind.i64.wrap (1 + (x.s.x - 1)) = x.s.x := by rw [show 1 + (x.s.x - 1) = x.s.x by omega]; exact IntWalk.i64_in _ (by omega)
          have kz0 : 0 ≤ (k : Int) / d.z := Int.ediv_nonneg (Int.natCast_nonneg k) (by omega)
          have kz1 : (k : Int) / d.z ≤ 4096 := Int.le_trans (Int.ediv_le_self _ (Int.natCast_nonneg k)) (by omega)
          have b1 : (k : Int).tdiv d.z = (k : Int) / d.z := Int.tdiv_eq_ediv_of_nonneg (Int.natCast_nonneg k)
          have b2 : IntKind.i64.wrap ((k : Int) / d.z) = (k : Int) / d.z := IntWalk.i64_in _ (by omega)
          have b3 : ((k : Int) / d.z).tmod d.y = x.s.y - 1 := by rw [Int.tmod_eq_emod_of_nonneg kz0]; omega
          have b4 : IntKind.i64.wrap (x.s.y - 1) = x.s.y - 1 := IntWalk.i64_in _ (by omega)
          have b5 : IntKind.i64.wrap (1 + (x.s.y - 1)) = x.s.y := by rw [show 1 + (x.s.y - 1) = x.s.y by omega]; exact IntWalk.i64_in _ (by omega)
          have c3 : (k : Int).tmod d.z = x.s.z - 1 := by rw [Int.tmod_eq_emod_of_nonneg (Int.natCast_nonneg k)]; omega
          have c4 : IntKind.i64.wrap (x.s.z - 1) = x.s.z - 1 := IntWalk.i64_in _ (by omega)
          have c5 : IntKind.i64.wrap (1 + (x.s.z - 1)) = x.s.z := by rw [show 1 + (x.s.z - 1) = x.s.z by omega]; exact IntWalk.i64_in _ (by omega)
          have hdl := hbd.lt
          have hnl2 := hbn.lt
          have e1 : ¬ d.y * d.z = 0 := by omega
          have e2 : ¬ d.z = 0 := by omega
          have e3 : ¬ d.y = 0 := by omega
          have a5 : wrap64 (x.s.x - 1) = x.s.x - 1 := (IntWalk.i64_left _).symm.trans a3
          have a6 : wrap64 (1 + (x.s.x - 1)) = x.s.x := (IntWalk.i64_left _).symm.trans a4
          have b6 : wrap64 (1 + (x.s.y - 1)) = x.s.y := (IntWalk.i64_left _).symm.trans b5
          have c6 : wrap64 (1 + (x.s.z - 1)) = x.s.z := (IntWalk.i64_left _).symm.trans c5
          clear hJs hbn hbd hbp s1 s2 s3 s4 kz0 kz1 hx
          gi_wp2
          refine wpIn_wide.2 ?_
          have mixed : Try.prog.follows .mixedOrders = true := by kernel_rfl
          go_region_held3 (fun W => W.cell? ⟨w1.heap.size, 0, none⟩ = some (.int .i64 x.b.x) ∧ W.cell? ⟨w1.heap.size, 1, none⟩ = some (.int .i64 x.b.y) ∧ W.cell? ⟨w1.heap.size, 2, none⟩ = some (.int .i64 x.b.z) ∧ W.cell? ⟨Bd, 1, none⟩ = some (.int .i64 d.y) ∧ W.cell? ⟨Bd, 2, none⟩ = some (.int .i64 d.z)) (go_keep) (fail)
          gi_wp2
          refine ⟨trivial, ?_⟩
          refine (callsIn_wide.2 (hcx _)).mono ?_
          rintro e w2 ⟨rfl, hb2⟩
          have hbA : Below wr.heap.size wr (wr.alloc (.cells #[.int .i64 x.b.x, .int .i64 x.b.y, .int .i64 x.b.z, .int .i64 x.s.x, .int .i64 x.s.y, .int .i64 x.s.z] 27)).drew := by (repeat (first | (with_reducible exact Below.refl _ _) | (with_reducible assumption) | (with_reducible refine below_alloc ?_ _) | (with_reducible refine below_drewN ?_ _) | (with_reducible refine Below.drew ?_) | (with_reducible refine below_then ?_ (by with_reducible assumption)) | (with_reducible refine Below.setCell ?_ (by go_size) _)))
          have hbw := below_then hbA hb2
          have hbx := ((Blk.new wr 27 #[.int .i64 x.b.x, .int .i64 x.b.y, .int .i64 x.b.z, .int .i64 x.s.x, .int .i64 x.s.y, .int .i64 x.s.z]).drew).below hb2
          have x0 := hbx.cell 0 _ rfl
          have x1' := hbx.cell 1 _ rfl
          have x2' := hbx.cell 2 _ rfl
          have x3 := hbx.cell 3 _ rfl
          have x4 := hbx.cell 4 _ rfl
          have x5 := hbx.cell 5 _ rfl
          have hxl := hbx.lt
          generalize x.can d = c at *
          have HJ3 := Lib.hid (HJ.out _ _ (w2.alloc (.cells #[.int .i64 c.b.x, .int .i64 c.b.y, .int .i64 c.b.z, .int .i64 c.s.x, .int .i64 c.s.y, .int .i64 c.s.z] 27)) HJs.out (below_alloc hbw _))
          have HN3 := Lib.hid ((HN.out.below hbw).alloc (.cells #[.int .i64 c.b.x, .int .i64 c.b.y, .int .i64 c.b.z, .int .i64 c.s.x, .int .i64 c.s.y, .int .i64 c.s.z] 27))
          have HD3 := Lib.hid ((HD.out.below hbw).alloc (.cells #[.int .i64 c.b.x, .int .i64 c.b.y, .int .i64 c.b.z, .int .i64 c.s.x, .int .i64 c.s.y, .int .i64 c.s.z] 27))
          have HP3 := Lib.hid ((HP.out.below hbw).alloc (.cells #[.int .i64 c.b.x, .int .i64 c.b.y, .int .i64 c.b.z, .int .i64 c.s.x, .int .i64 c.s.y, .int .i64 c.s.z] 27))
          have hs3 : B < w2.heap.size := Nat.lt_of_lt_of_le hBs hbw.size
          clear d0 d1 d2 p0 p1 p2 a1 a2 a3 a4 a5 a6 b1 b2 b3 b4 b5 b6 c3 c4 c5 c6 e1 e2 e3 HJs HN HD HP hbx hb2 hbA hcx hbw
          have heq : ∀ w, (binOp .eql 27 (.agg #[.int .i64 c.b.x, .int .i64 c.b.y, .int .i64 c.b.z, .int .i64 c.s.x, .int .i64 c.s.y, .int .i64 c.s.z]) (.agg #[.int .i64 x.b.x, .int .i64 x.b.y, .int .i64 x.b.z, .int .i64 x.s.x, .int .i64 x.s.y, .int .i64 x.s.z])).run Try.prog w = .ok (.bool (canB d x)) w := fun w => by rw [run_eql_box, hcb]
          cases hr : canB d x with
          | false =>
            rw [hr] at heq
            have HR := Lib.hid (hskip.out hr)
            clear hr hcb hhere hskip
            gi_wp2
            refine ⟨fun _ h => (by cases h), ?_⟩
            gi_wp2
            go_roundw
            case rel => exact ⟨k + 1, by omega, by go_num, by rw [← HR.out]; exact HJ3.out, HN3.out, HD3.out, by rw [HXB.out]; exact HP3.out, by simp; omega⟩
            case measure => (simp [intOf] <;> omega)
          | true =>
            rw [hr] at heq
            obtain ⟨hR1, hR2, hR3⟩ := hhere.out hr
            have HR1 := Lib.hid hR1
            have HR2 := Lib.hid hR2
            obtain ⟨fn, tmps, assign, body, hyy, hRd⟩ := HY.out _ x _ HJ3.out hR3
            dsimp only [encX] at hyy
            clear hr hcb hhere hskip hR1 hR2 hR3
            gi_wp2
            refine hRd.mono ?_
            rintro e W3 (⟨rfl, hJ4, hk4⟩ | ⟨rfl, hJx4⟩)
            · have HJ4 := Lib.hid hJ4
              have HN4 := Lib.hid (hk4.blk HN3.out hBn (by decide))
              have HD4 := Lib.hid (hk4.blk HD3.out hBd (by decide))
              have HP4 := Lib.hid (hk4.blk HP3.out hBP (by decide))
              have hs4 : B < W3.heap.size := Nat.lt_of_lt_of_le (by simp; omega) hk4.below.size
              clear hJ4 hk4 hRd hyy x0 x1' x2' x3 x4 x5
              gi_wp2
              go_roundw
              case rel => exact ⟨k + 1, by omega, by go_num, by rw [← HR1.out]; exact HJ4.out, HN4.out, HD4.out, by rw [HXB.out]; exact HP4.out, hs4⟩
              case measure => (simp [intOf] <;> omega)
            · gi_wp2
              refine bodyPost_ret (results_none rfl _ _ _) rfl ?_
              exact ⟨⟨_, rfl⟩, .inr ⟨_, HR2.out, hJx4⟩⟩
        · obtain rfl : k = d.n.toNat := by omega
          have hks : ((d.n.toNat : Nat) : Int) = d.n := Int.toNat_of_nonneg (by omega)
          have HJs := Lib.hid (show J (boxesTo d (m + 1)) wr by rw [boxesTo_succ]; exact hJs)
          have HN := Lib.hid hbn
          have HD := Lib.hid hbd
          have hdf : decide (((d.n.toNat : Nat) : Int) < d.n) = false := decide_eq_false (by omega)
          clear hJs hbn hbd hbp hks
          gi_wp2
          go_roundw
          case rel => exact ⟨m + 1, by omega, by go_num, HJs.out, HN.out, HD.out, hBs⟩
          case measure => (simp [intOf] <;> omega)
    · obtain rfl : m = d.n.toNat := by omega
      have hdf : decide (((d.n.toNat : Nat) : Int) < d.n) = false := decide_eq_false (by omega)
      have HJs := Lib.hid (show J (allBx d) wr from hJs)
      clear hJs hbn hbd
      gi_wp2
      go_end0
      exact ⟨⟨_, rfl⟩, .inl ⟨_, rfl, HJs.out⟩⟩
theorem boxes_in (n : Nat) (d : V3) (w : World) :
    CallsIn Fence.wide n Try.prog 30 #[.agg #[.int .i64 d.x, .int .i64 d.y, .int .i64 d.z], .int .i64 d.n] w fun e w' => e = .returned (.func (.func 57) #[] #[.pointer (some ⟨w.heap.size + 1, 0, none⟩), .pointer (some ⟨w.heap.size, 0, none⟩)]) ∧
      w' = (w.alloc (.cells #[.int .i64 d.x, .int .i64 d.y, .int .i64 d.z] 23)).alloc (.cells #[.int .i64 d.n] 3) := by
  refine callsIn_of_wp Try.func30 rfl trivial ?_ rfl
  simp only [Try.ntmps30, List.size_toArray, List.length_cons, List.length_nil, Nat.reduceAdd, Nat.reduceSub, Array.replicate_succ, Array.replicate_zero, List.push_toArray, List.append_toArray, List.nil_append, List.cons_append]
  gi_wp2
  go_ret
  exact ⟨rfl, rfl⟩
theorem boxes_stops (n : Nat) (hn : 1 ≤ n) (Bn Bd B n₀ : Nat) (d : V3) (hm : d.may) (hBn : Bn ≠ B) (hBd : Bd ≠ B) (w : World) (hWs : B < w.heap.size) (hbn : Blk w Bn 3 #[.int .i64 d.n]) (hbd : Blk w Bd 23 #[.int .i64 d.x, .int .i64 d.y, .int .i64 d.z]) :
    SeqStopsK Fence.wide n Try.prog 57 #[.pointer (some ⟨Bn, 0, none⟩), .pointer (some ⟨Bd, 0, none⟩)] encX (KpT n₀ B) (fun ys => ys = allBx d) (fun pre => pre <+: allBx d) (allBx d).length w := fun l J Jx W hW hJ _ hY hj0 =>
  boxes1_in n hn l Bn Bd B n₀ d hm hBn hBd J Jx hY W (Nat.lt_of_lt_of_le hWs hW.size) (hbn.below hW) (hbd.below hW) hJ hj0
end
end Go.Proofs.Ytofoenlhbmammaa
