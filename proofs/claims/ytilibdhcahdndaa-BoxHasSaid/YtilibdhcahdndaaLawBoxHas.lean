/- BoxHas: a box has just the midplanes that are listed, rising, as many as it has: the call returns true. -/
import Derived.Test.YtilibdhcahdndaaBoxCanLaw
import Derived.Test.YtilibdhcahdndaaBoxHas
import Derived.Test.YtilibdhcahdndaaBoxAlive
import Derived.Test.YtilibdhcahdndaaRow
namespace Go.Proofs.Ytilibdhcahdndaa
open Go.ChangeShapes Go.WideShapes Go.ChangeAt Go.RowKit Go.Shelf

theorem Bx.all_lenH (d : V3) (b : Bx) (hd : d.may) : (b.all d).length ≤ 4096 := by
  have := V3.n_le hd
  have := List.length_filter_le (b.has d) ((List.range d.n.toNat).map (fun (j : Nat) => (j : Int)))
  simp only [List.length_map, List.length_range] at this
  unfold Bx.all Bx.upto
  omega
theorem Bx.all_vol {d : V3} {b : Bx} (hd : d.may) (hb : b.may d) : ((b.all d).length : Int) = b.vol := by
  rw [← Bx.nodes_eq hd hb, sorted_len, Bx.nZ_len]
  unfold Bx.may at hb
  unfold Bx.vol
  obtain ⟨x, hx⟩ : ∃ x : Nat, b.s.x = x := ⟨b.s.x.toNat, by omega⟩
  obtain ⟨y, hy⟩ : ∃ y : Nat, b.s.y = y := ⟨b.s.y.toNat, by omega⟩
  obtain ⟨z, hz⟩ : ∃ z : Nat, b.s.z = z := ⟨b.s.z.toNat, by omega⟩
  rw [hx, hy, hz]
  simp only [Int.toNat_natCast, Int.natCast_mul]
  rw [Int.mul_comm (y : Int), Int.mul_comm (z : Int)]
theorem Bx.upto_step (d : V3) (b : Bx) (m : Nat) : b.upto d (m + 1) = if b.has d m then b.upto d m ++ [(m : Int)] else b.upto d m := by
  simp only [Bx.upto, List.range_succ, List.map_append, List.filter_append, List.map_cons, List.map_nil, List.filter_cons, List.filter_nil]
  split <;> simp
theorem Bx.upto_split (d : V3) (b : Bx) (m : Nat) : ∀ n, m ≤ n → ∃ r, b.upto d n = b.upto d m ++ r ∧ ∀ x ∈ r, (m : Int) ≤ x := by
  intro n
  induction n with
  | zero => intro h; obtain rfl : m = 0 := by omega
            exact ⟨[], by simp, by simp⟩
  | succ n ih =>
    intro h
    by_cases e : m = n + 1
    · subst e; exact ⟨[], by simp, by simp⟩
    · obtain ⟨r, h1, h2⟩ := ih (by omega)
      rw [Bx.upto_step, h1]
      by_cases hh : b.has d n = true
      · rw [if_pos hh]
        refine ⟨r ++ [(n : Int)], by simp, fun x hx => ?_⟩
        rcases List.mem_append.1 hx with hx | hx
        · exact h2 x hx
        · simp at hx; omega
      · rw [if_neg hh]; exact ⟨r, rfl, h2⟩
theorem Bx.there {d : V3} {b : Bx} {m : Nat} (h : (m : Int) < d.n) :
    (b.has d m = true ∧ ∃ hk : (b.upto d m).length < (b.all d).length, (b.all d)[(b.upto d m).length] = (m : Int)) ∨
    (b.has d m = false ∧ ((b.all d).length = (b.upto d m).length ∨ ∃ hk : (b.upto d m).length < (b.all d).length, (b.all d)[(b.upto d m).length] ≠ (m : Int))) := by
  obtain ⟨r, h1, h2⟩ := Bx.upto_split d b (m + 1) d.n.toNat (by omega)
  have ha : b.all d = b.upto d (m + 1) ++ r := h1
  rw [Bx.upto_step] at ha
  cases hh : b.has d m with
  | true =>
    rw [if_pos hh] at ha
    refine .inl ⟨rfl, by rw [ha]; simp, ?_⟩
    simp only [ha, List.append_assoc]
    simp
  | false =>
    rw [if_neg (by simp [hh])] at ha
    refine .inr ⟨rfl, ?_⟩
    cases r with
    | nil => left; rw [ha]; simp
    | cons y r =>
      right
      refine ⟨by rw [ha]; simp, ?_⟩
      have := h2 y (List.mem_cons_self ..)
      simp only [ha]
      simp
      omega
theorem Bx.upto_all (d : V3) (b : Bx) : b.upto d d.n.toNat = b.all d := rfl
theorem Bx.upto_zero (d : V3) (b : Bx) : b.upto d 0 = [] := rfl
theorem Bx.upto_le (d : V3) (b : Bx) (m : Nat) : (b.upto d m).length ≤ m := by
  have := List.length_filter_le (b.has d) ((List.range m).map (fun (j : Nat) => (j : Int)))
  simp only [List.length_map, List.length_range] at this
  exact this


set_option maxRecDepth 100000 in set_option maxHeartbeats 4000000 in
theorem law02_BoxHas_no (d : V3) (b : Bx) (w : World) (h : ¬ chk d b = 0) : Calls Try.prog 6 #[.agg #[.int .i64 d.x, .int .i64 d.y, .int .i64 d.z], .agg #[.int .i64 b.b.x, .int .i64 b.b.y, .int .i64 b.b.z, .int .i64 b.s.x, .int .i64 b.s.y, .int .i64 b.s.z]] w (RB w (.bool true)) := by
  have H1 := Lib.hid (fun W => by have := box_Nodes d b W; rw [nodesV, if_neg h] at this; exact this)
  have H2 := Lib.hid (fun W => box_Many d b W)
  have H3 := Lib.hid (fun W => box_Check d b W)
  have hn : (chk d b == 0) = false := by simpa using h
  have hm : (chk d b != 0) = true := by simpa using h
  generalize chk d b = k0 at *
  generalize volV d b = v0 at *
  clear h
  have HW : Below w.heap.size w ((w.alloc (.cells #[.int .i64 d.x, .int .i64 d.y, .int .i64 d.z] 37)).alloc (.cells #[.int .i64 b.b.x, .int .i64 b.b.y, .int .i64 b.b.z, .int .i64 b.s.x, .int .i64 b.s.y, .int .i64 b.s.z] 39)) := by (repeat (first | (with_reducible exact Below.refl _ _) | (with_reducible assumption) | (with_reducible refine below_alloc ?_ _) | (with_reducible refine below_drewN ?_ _) | (with_reducible refine Below.drew ?_) | (with_reducible refine below_then ?_ (by with_reducible assumption)) | (with_reducible refine Below.setCell ?_ (by go_size) _)))
  have HF := Lib.hid HW
  have DD := Lib.hid (((Blk.new w 37 #[.int .i64 d.x, .int .i64 d.y, .int .i64 d.z]).alloc (.cells #[.int .i64 b.b.x, .int .i64 b.b.y, .int .i64 b.b.z, .int .i64 b.s.x, .int .i64 b.s.y, .int .i64 b.s.z] 39)).dims)
  have BB0 := (Blk.new (w.alloc (.cells #[.int .i64 d.x, .int .i64 d.y, .int .i64 d.z] 37)) 39 #[.int .i64 b.b.x, .int .i64 b.b.y, .int .i64 b.b.z, .int .i64 b.s.x, .int .i64 b.s.y, .int .i64 b.s.z]).box
  rw [World.size_alloc] at BB0
  have BB := Lib.hid BB0
  clear HW BB0
  go_enter Try.func6, Try.ntmps6
  go_wp2_with fail
  refine (law02_alive _).mono ?_
  rintro e w0 ⟨rfl, hb1⟩
  (have HF := Lib.hid (below_then HF.out hb1); have DD := Lib.hid (DD.out.keep hb1 DD.out.lt); have BB := Lib.hid (BB.out.keep hb1 BB.out.lt))
  clear hb1
  (obtain ⟨d0, d1, d2⟩ := DD.out; obtain ⟨b0, b1, b2, b3, b4, b5⟩ := BB.out; have t0 := DD.out.lt; have t1 := BB.out.lt)
  go_wp2_with fail
  (clear d0 d1 d2 b0 b1 b2 b3 b4 b5 t0 t1)
  refine (H1.out _).mono ?_
  rintro e w1 ⟨v1, rfl, q1, hb1⟩
  obtain ⟨b1', k1, rfl, _, _⟩ := own_rd q1
  (have HF := Lib.hid (below_then HF.out hb1); have DD := Lib.hid (DD.out.keep hb1 DD.out.lt); have BB := Lib.hid (BB.out.keep hb1 BB.out.lt))
  clear hb1 q1
  (obtain ⟨d0, d1, d2⟩ := DD.out; obtain ⟨b0, b1, b2, b3, b4, b5⟩ := BB.out; have t0 := DD.out.lt; have t1 := BB.out.lt)
  go_wp2_with fail
  (clear d0 d1 d2 b0 b1 b2 b3 b4 b5 t0 t1)
  refine (H2.out _).mono ?_
  rintro e w2 ⟨rfl, hb1⟩
  (have HF := Lib.hid (below_then HF.out hb1); have DD := Lib.hid (DD.out.keep hb1 DD.out.lt); have BB := Lib.hid (BB.out.keep hb1 BB.out.lt))
  clear hb1
  (obtain ⟨d0, d1, d2⟩ := DD.out; obtain ⟨b0, b1, b2, b3, b4, b5⟩ := BB.out; have t0 := DD.out.lt; have t1 := BB.out.lt)
  go_wp2_with fail
  (clear d0 d1 d2 b0 b1 b2 b3 b4 b5 t0 t1)
  refine (H3.out _).mono ?_
  rintro e w3 ⟨rfl, hb1⟩
  have HF := Lib.hid (below_then HF.out hb1)
  clear hb1
  go_wp2_with fail
  go_returns
  exact ⟨by first | rfl | simp, HF.out⟩

set_option maxRecDepth 100000 in set_option maxHeartbeats 4000000 in
theorem law02_BoxHas_ok (d : V3) (b : Bx) (w : World) (hd : d.may) (hb : b.may d) : Calls Try.prog 6 #[.agg #[.int .i64 d.x, .int .i64 d.y, .int .i64 d.z], .agg #[.int .i64 b.b.x, .int .i64 b.b.y, .int .i64 b.b.z, .int .i64 b.s.x, .int .i64 b.s.y, .int .i64 b.s.z]] w (RB w (.bool true)) := by
  have H1 := Lib.hid (fun W => box_Nodes_ok d b W hd hb)
  have H2 := Lib.hid (fun W => by have := box_Many d b W; rw [volV, if_pos (chk_of hd hb), chk_of hd hb, ← Bx.all_vol hd hb] at this; exact this)
  have H3 := Lib.hid (fun (m : Nat) (hm : (m : Int) < d.n) W => box_Has_ok d b m W hd hb (by omega) hm)
  have HT := Lib.hid (fun (m : Nat) (hm : (m : Int) < d.n) => Bx.there (b := b) hm)
  have HSt := Lib.hid (Bx.upto_step d b)
  have HU := Lib.hid (Bx.upto_all d b)
  have hln := Bx.all_lenH d b hd
  have hle := Bx.upto_le d b
  have hle := Lib.hid hle
  have hxy := V3.xy_le hd
  have hnn := V3.n_le hd
  have HN := Lib.hid (show d.n = d.x * d.y * d.z from rfl)
  have hp3 : 1 ≤ d.x * d.y * d.z ∧ d.x * d.y * d.z ≤ 4096 := hnn
  have hd' := hd
  unfold V3.may at hd'
  generalize hl : b.all d = l at *
  clear hl hd hb
  have HW : Below w.heap.size w ((w.alloc (.cells #[.int .i64 d.x, .int .i64 d.y, .int .i64 d.z] 37)).alloc (.cells #[.int .i64 b.b.x, .int .i64 b.b.y, .int .i64 b.b.z, .int .i64 b.s.x, .int .i64 b.s.y, .int .i64 b.s.z] 39)) := by (repeat (first | (with_reducible exact Below.refl _ _) | (with_reducible assumption) | (with_reducible refine below_alloc ?_ _) | (with_reducible refine below_drewN ?_ _) | (with_reducible refine Below.drew ?_) | (with_reducible refine below_then ?_ (by with_reducible assumption)) | (with_reducible refine Below.setCell ?_ (by go_size) _)))
  have HF := Lib.hid HW
  have DD := Lib.hid (((Blk.new w 37 #[.int .i64 d.x, .int .i64 d.y, .int .i64 d.z]).alloc (.cells #[.int .i64 b.b.x, .int .i64 b.b.y, .int .i64 b.b.z, .int .i64 b.s.x, .int .i64 b.s.y, .int .i64 b.s.z] 39)).dims)
  have BB0 := (Blk.new (w.alloc (.cells #[.int .i64 d.x, .int .i64 d.y, .int .i64 d.z] 37)) 39 #[.int .i64 b.b.x, .int .i64 b.b.y, .int .i64 b.b.z, .int .i64 b.s.x, .int .i64 b.s.y, .int .i64 b.s.z]).box
  rw [World.size_alloc] at BB0
  have BB := Lib.hid BB0
  clear HW BB0
  go_enter Try.func6, Try.ntmps6
  go_wp2_with fail
  refine (law02_alive _).mono ?_
  rintro e w0 ⟨rfl, hb1⟩
  (have HF := Lib.hid (below_then HF.out hb1); have DD := Lib.hid (DD.out.keep hb1 DD.out.lt); have BB := Lib.hid (BB.out.keep hb1 BB.out.lt))
  clear hb1
  (obtain ⟨d0, d1, d2⟩ := DD.out; obtain ⟨b0, b1, b2, b3, b4, b5⟩ := BB.out; have t0 := DD.out.lt; have t1 := BB.out.lt)
  go_wp2_with fail
  (clear d0 d1 d2 b0 b1 b2 b3 b4 b5 t0 t1)
  refine (H1.out _).mono ?_
  rintro e w1 ⟨v1, rfl, q1, hb1⟩
  obtain ⟨b1', k1, rfl, s1, _⟩ := list_of_own q1 (by omega)
  have L1 := Lib.hid s1
  (have HF := Lib.hid (below_then HF.out hb1); have DD := Lib.hid (DD.out.keep hb1 DD.out.lt); have BB := Lib.hid (BB.out.keep hb1 BB.out.lt))
  clear hb1 q1 s1
  (obtain ⟨d0, d1, d2⟩ := DD.out; obtain ⟨b0, b1, b2, b3, b4, b5⟩ := BB.out; have t0 := DD.out.lt; have t1 := BB.out.lt)
  go_wp2_with fail
  (clear d0 d1 d2 b0 b1 b2 b3 b4 b5 t0 t1)
  refine (H2.out _).mono ?_
  rintro e w2 ⟨rfl, hb1⟩
  (have HF := Lib.hid (below_then HF.out hb1); have DD := Lib.hid (DD.out.keep hb1 DD.out.lt); have BB := Lib.hid (BB.out.keep hb1 BB.out.lt))
  (have L1 := Lib.hid (L1.out.keep hb1))
  clear hb1
  go_wp2_with fail
  obtain ⟨wo, hwo⟩ : ∃ wo : World, wo = w2 := ⟨_, rfl⟩
  subst hwo
  go_loopw [10, 11] (fun k i wr => ∃ m : Nat, (m : Int) ≤ d.n ∧ i = .int .i64 m ∧ k = .int .i64 ((b.upto d m).length : Nat) ∧ Below wo.heap.size wo wr) (fun _ i _ => d.n.toNat - (intOf i).toNat)
  case atStart => exact ⟨0, by omega, rfl, rfl, Below.refl _ _⟩
  case round =>
    obtain ⟨m, hm, rfl, rfl, hbw⟩ := hrel
    have DD2 := Lib.hid (DD.out.keep hbw DD.out.lt)
    have BB2 := Lib.hid (BB.out.keep hbw BB.out.lt)
    have LL := Lib.hid (L1.out.keep hbw)
    have HBW := Lib.hid hbw
    have hul := hle.out m
    obtain ⟨d0, d1, d2⟩ := DD2.out
    obtain ⟨b0, b1, b2, b3, b4, b5⟩ := BB2.out
    have t0 := DD2.out.lt
    have t1 := BB2.out.lt
    clear hbw
    by_cases hlt : (m : Int) < d.n
    · have hlt2 : (m : Int) < d.x * d.y * d.z := by rw [← HN.out]; exact hlt
      have hst := HSt.out m
      have HH := Lib.hid (H3.out m hlt)
      rcases HT.out m hlt with ⟨hh, hk, hkm⟩ | ⟨hh, hk⟩
      · rw [if_pos hh] at hst
        obtain ⟨bA, oA, e, hca⟩ := LL.out.rd _ _ (getElem?_map_int hk)
        rw [hkm] at hca
        rw [hh] at HH
        obtain ⟨kk, hkk⟩ : ∃ kk, kk = (b.upto d m).length := ⟨_, rfl⟩
        have HST := Lib.hid (show (b.upto d (m + 1)).length = kk + 1 by rw [hst, hkk]; simp)
        rw [← hkk] at hca hk hul ⊢
        subst e
        clear hkk hkm hst hh
        go_wp2_with fail
        refine (HH.out _).mono ?_
        rintro e w3 ⟨rfl, hb3⟩
        have hca3 := (hb3.cell (p := ⟨bA, oA + kk, none⟩) (World.block_lt_of_cell? _ _ hca)).trans hca
        clear hca
        go_wp2_with fail
        go_roundw
        case rel => exact ⟨m + 1, by omega, by go_num, by rw [HST.out]; simp, below_then HBW.out hb3⟩
        case measure => simp [intOf]; omega
      · rw [if_neg (by simp [hh])] at hst
        have HST0 := congrArg List.length hst
        rw [hh] at HH
        rcases hk with hk | ⟨hk, hkm⟩
        · obtain ⟨kk, hkk⟩ : ∃ kk, kk = (b.upto d m).length := ⟨_, rfl⟩
          rw [← hkk] at hk hul HST0 ⊢
          have HST := Lib.hid HST0
          have hkf : decide (kk < l.length) = false := by rw [decide_eq_false_iff_not]; omega
          have hk1 : l.length ≤ kk := by omega
          have hk2 : kk ≤ l.length := by omega
          clear hkk hst hh HST0 hk
          go_wp2_with fail
          refine (HH.out _).mono ?_
          rintro e w3 ⟨rfl, hb3⟩
          go_wp2_with fail
          go_roundw
          case rel => exact ⟨m + 1, by omega, by go_num, by rw [HST.out], below_then HBW.out hb3⟩
          case measure => simp [intOf]; omega
        · obtain ⟨bA, oA, e, hca⟩ := LL.out.rd _ _ (getElem?_map_int hk)
          obtain ⟨kk, hkk⟩ : ∃ kk, kk = (b.upto d m).length := ⟨_, rfl⟩
          simp only [← hkk] at hca hk hkm hul HST0 ⊢
          have HST := Lib.hid HST0
          clear HST0
          obtain ⟨y, hy⟩ : ∃ y, y = l[kk] := ⟨_, rfl⟩
          rw [← hy] at hca hkm
          have hkf : (y == (m : Int)) = false := by rw [beq_eq_false_iff_ne]; exact hkm
          subst e
          clear hkk hst hh hy hkm
          go_wp2_with fail
          refine (HH.out _).mono ?_
          rintro e w3 ⟨rfl, hb3⟩
          have hca3 := (hb3.cell (p := ⟨bA, oA + kk, none⟩) (World.block_lt_of_cell? _ _ hca)).trans hca
          clear hca
          go_wp2_with fail
          go_roundw
          case rel => exact ⟨m + 1, by omega, by go_num, by rw [HST.out], below_then HBW.out hb3⟩
          case measure => simp [intOf]; omega
    · have hlt2 : d.x * d.y * d.z ≤ (m : Int) := by rw [← HN.out]; omega
      obtain rfl : m = d.n.toNat := by omega
      have hu2 := HU.out
      rw [hu2]
      go_wp2_with fail
      go_returns
      exact ⟨by first | rfl | simp, below_then HF.out HBW.out⟩

theorem law02_BoxHas (d : V3) (b : Bx) (w : World) : Calls Try.prog 6 #[.agg #[.int .i64 d.x, .int .i64 d.y, .int .i64 d.z], .agg #[.int .i64 b.b.x, .int .i64 b.b.y, .int .i64 b.b.z, .int .i64 b.s.x, .int .i64 b.s.y, .int .i64 b.s.z]] w (RB w (.bool true)) := by
  by_cases h : chk d b = 0
  · obtain ⟨hd, hb⟩ := chk_may h
    exact law02_BoxHas_ok d b w hd hb
  · exact law02_BoxHas_no d b w h

set_option maxRecDepth 100000 in set_option maxHeartbeats 4000000 in
theorem lift_boxHas (os : Os) (started : os.Started) (H : Type) (enc : TypeId × Value → H) :
    ReturnsInHanded {} Try.checked os 6 .any (Rows.boxHasSpec.pre6 enc Try.prog Try.f6 Rows.boxHasRow.domain false) (Rows.boxHasSpec.post enc Try.prog Try.f6 false true false false) := by
  refine returnsInHanded_of_change (C := Try.checked) ownKnob0 started (by kernel_rfl) Try.func6
    (ChangeSpec.witness6 (enc := enc) (C := Try.checked) false ⟨#[], #[.agg #[.int .i64 0, .int .i64 0, .int .i64 0], .agg #[.int .i64 0, .int .i64 0, .int .i64 0, .int .i64 0, .int .i64 0, .int .i64 0]], []⟩ 8 (by kernel_rfl) (by kernel_rfl) (by kernel_rfl) (by kernel_rfl)) ?_
  intro W base args ds gs before hval0 hW hcnd _
  have hval : ∀ (j : Nat) t v, Try.f6.params[j]? = some t → args[j]? = some v → Value.okWide Try.prog W .any base t v := hval0
  have hW' := hW
  obtain ⟨p, q, hA0, hV, rfl, hfz, hnd⟩ := hW
  have hA : DataW.TrodAll enc Try.prog W 0 (fun _ => true) true Try.f6.params.toList args.toList ds p := hA0
  rw [Try.params6] at hA hval
  have hK := hA
  obtain ⟨v0, vs0, d0, ds0, p0, q0, hargs, rfl, rfl, h0, r0⟩ := trodAll_cons hA
  obtain ⟨v1, vs1, d1, ds1, p1, q1, rfl, rfl, rfl, h1, r1⟩ := trodAll_cons r0
  obtain ⟨rfl, rfl, rfl⟩ := trodAll_nil r1
  obtain rfl : args = #[v0, v1] := by cases args; simp_all
  obtain ⟨d, rfl⟩ := open_dims (hval 0 _ v0 rfl rfl)
  obtain ⟨b, rfl⟩ := open_box (hval 1 _ v1 rfl rfl)
  obtain ⟨rfl, rfl⟩ := trodVars_none hV
  clear hA0 hval0
  simp only [List.append_nil] at hW' hK
  refine (law02_BoxHas d b W).mono fun e W' ⟨he, bel⟩ => ?_
  subst he
  refine ⟨_, rfl, _, _, _, [], _, [], hW', trodAll_mk1 (shut_bool Try.underlying4 _), trodAll_below bel _ _ _ _ ?_ hK, rfl, bel.frame _, fun h => by cases h⟩
  intro t ht
  simp at ht <;> (rcases ht with rfl | rfl <;> exact ⟨by kernel_rfl, of_decide_eq_true (by kernel_rfl)⟩)

theorem holds_boxHas : Rows.boxHasRow.holds Try.pinned (OpenSpec.ofChange Rows.boxHasSpec) :=
  OpenClaim.holds_of_wide 6 Try.f6 rfl rfl rfl rfl rfl rfl rfl ⟨rfl, rfl, rfl, rfl, rfl⟩ rfl rfl rfl rfl rfl (by kernel_rfl) Try.func6 (by kernel_rfl)
    (of_decide_eq_true (by kernel_rfl)) (by unfold Func.isWrapper; first | (rw [if_pos (by decide +kernel)]; kernel_rfl) | (rw [if_neg (by decide +kernel)]; exact ⟨rfl, rfl⟩))
    (fun os started H enc _ => lift_boxHas os started H enc)

theorem BoxHas_holds : Rows.BoxHasSaid := holds_boxHas
end Go.Proofs.Ytilibdhcahdndaa
