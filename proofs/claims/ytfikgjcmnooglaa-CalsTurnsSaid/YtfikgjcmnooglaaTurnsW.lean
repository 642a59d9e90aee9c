/- YARDS: what a law may do to calendars of its own; calendars of many midplanes. -/
import Derived.Test.YtfikgjcmnooglaaRefYard
import Derived.Test.YtfikgjcmnooglaaYardM
namespace Go.Proofs.Ytfikgjcmnooglaa

section
open Go.RowKit Go.Shelf

/-- A block whose first n cells are numbers. -/
def IntBlk (W : World) (h n : Nat) : Prop := ∃ cur : Array Value, W.heap[h]? = some (.cells cur 57 (0, 0)) ∧ n ≤ cur.size ∧ ∀ j, j < n → ∃ z : Int, cur[j]? = some (.int .i64 z)
theorem IntBlk.cell {W : World} {h n j : Nat} (hb : IntBlk W h n) (hj : j < n) : ∃ z : Int, W.cell? ⟨h, j, none⟩ = some (.int .i64 z) ∧ W.frozen? ⟨h, j, none⟩ = false := by
  obtain ⟨cur, h1, h2, h3⟩ := hb
  obtain ⟨z, hz⟩ := h3 j hj
  exact ⟨z, by simp [World.cell?, h1, hz], by simp [World.frozen?, h1]⟩
theorem IntBlk.set {W : World} {h n : Nat} (hb : IntBlk W h n) (g j : Nat) (x : Int) : IntBlk (W.setCell ⟨g, j, none⟩ (.int .i64 x)) h n := by
  obtain ⟨cur, h1, h2, h3⟩ := hb
  by_cases e : h = g
  · subst e
    refine ⟨cur.setIfInBounds j (.int .i64 x), heap_setCell_same W h j cur _ _ h1, by simpa using h2, fun i hi => ?_⟩
    by_cases hij : i = j
    · subst hij
      exact ⟨x, by rw [Array.getElem?_setIfInBounds, if_pos rfl, if_pos (by omega)]⟩
    · obtain ⟨z, hz⟩ := h3 i hi
      exact ⟨z, by rw [Array.getElem?_setIfInBounds, if_neg (by omega)]; exact hz⟩
  · exact ⟨cur, (Below.heap_setCell W ⟨g, j, none⟩ _ h (by simpa using e)).trans h1, h2, h3⟩
/-- A new list of new calendars, whatever numbers they hold. -/
structure AR (W : World) (B : Nat) (v : Value) (lens : List Nat) : Prop where
  ex : ∃ vs : List Value, W.ownsRow B 22 1 v lens.length vs ∧ ∀ (i n : Nat), lens[i]? = some n → ∃ b cap, vs[i]? = some (Value.slice b n cap) ∧ (0 < n → ∃ h, b = some ⟨h, 0, none⟩ ∧ B ≤ h ∧ IntBlk W h (n * 3))
theorem own_ints {W : World} {B : Nat} {u : Value} {c : List Sl} (h : W.ownsRow B 57 3 u c.length (slc c)) : ∃ b cap, u = .slice b c.length cap ∧ (0 < c.length → ∃ g, b = some ⟨g, 0, none⟩ ∧ B ≤ g ∧ IntBlk W g (c.length * 3)) := by
  rcases h.2 with ⟨rfl, hz⟩ | ⟨g, cap, cur, rfl, hb, hg, h1, h2, h3, h4⟩
  · exact ⟨none, 0, by rw [hz], fun h0 => absurd hz (by omega)⟩
  · refine ⟨_, cap, rfl, fun _ => ⟨g, rfl, hb, cur, hg, ?_, fun j hj => ?_⟩⟩
    · rw [h3]; exact Nat.mul_le_mul_right 3 h1
    · have hs := slc_at (c := c) (k := j / 3) (by omega) (j % 3) (Nat.mod_lt _ (by decide))
      rw [show j / 3 * 3 + j % 3 = j by omega, ← h4] at hs
      have hjs : j < cur.size := by rw [h3]; exact Nat.lt_of_lt_of_le hj (Nat.mul_le_mul_right 3 h1)
      have hc : cur[j]? = (c[j / 3]'(by omega)).cells[j % 3]? := by
        rw [← hs, List.getElem?_take_of_lt hj]
        simp
      have hm : j % 3 = 0 ∨ j % 3 = 1 ∨ j % 3 = 2 := by omega
      rcases hm with e | e | e <;> (rw [hc, e]; exact ⟨_, rfl⟩)
theorem LO.ar {W : World} {B : Nat} {v : Value} {ns : List (List Sl)} (h : LO W B v ns) : AR W B v (ns.map List.length) := by
  obtain ⟨vs, h1, h2⟩ := h.ex
  refine ⟨vs, by rw [List.length_map]; exact h1, fun i n hn => ?_⟩
  rw [List.getElem?_map] at hn
  cases hc : ns[i]? with
  | none => rw [hc] at hn; cases hn
  | some c =>
    rw [hc] at hn
    cases hn
    obtain ⟨u, h3, h4⟩ := h2 i c hc
    obtain ⟨b, cap, rfl, h5⟩ := own_ints h4
    exact ⟨b, cap, h3, h5⟩
theorem AR.keep {W W' : World} {B : Nat} {v : Value} {lens : List Nat} (h : AR W B v lens) (hb : Below W.heap.size W W') : AR W' B v lens := by
  obtain ⟨vs, h1, h2⟩ := h.ex
  refine ⟨vs, own_keep h1 hb, fun i n hn => ?_⟩
  obtain ⟨b, cap, h3, h4⟩ := h2 i n hn
  refine ⟨b, cap, h3, fun h0 => ?_⟩
  obtain ⟨g, e, h5, cur, h6, h7⟩ := h4 h0
  exact ⟨g, e, h5, cur, (hb.block g (Array.getElem?_eq_some_iff.1 h6).1).trans h6, h7⟩
/-- A row of it, as it is read. -/
theorem AR.row {W : World} {B : Nat} {base : Option Addr} {len cap : Nat} {lens : List Nat} {i n : Nat} (h : AR W B (.slice base len cap) lens) (hn : lens[i]? = some n) :
    ∃ g b cp, base = some ⟨g, 0, none⟩ ∧ W.cell? ⟨g, i, none⟩ = some (.slice b n cp) := by
  obtain ⟨vs, h1, h2⟩ := h.ex
  obtain ⟨b, cp, h3, _⟩ := h2 i n hn
  have hi := (List.getElem?_eq_some_iff.1 hn).1
  rcases h1.2 with ⟨_, e⟩ | ⟨g, cp2, cur, e, hbg, hg, _⟩
  · omega
  · cases e
    exact ⟨g, b, cp, rfl, by rw [h1.cellAt i (by omega)]; exact h3⟩
/-- What is read of it, and what storing a number there makes of it. -/
theorem AR.step {W : World} {B : Nat} {v : Value} {lens : List Nat} {i n m : Nat} (h : AR W B v lens) (hn : lens[i]? = some n) (hm : m < n) :
    ∃ g cap k b, v = .slice (some ⟨g, 0, none⟩) lens.length cap ∧ W.cell? ⟨g, i, none⟩ = some (.slice (some ⟨k, 0, none⟩) n b) ∧ B ≤ k ∧ B ≤ g ∧ ∃ z : Int, W.cell? ⟨k, m * 3 + 2, none⟩ = some (.int .i64 z) ∧ W.frozen? ⟨k, m * 3 + 2, none⟩ = false ∧
      ∀ x : Int, AR (W.setCell ⟨k, m * 3 + 2, none⟩ (.int .i64 x)) B v lens ∧ ∀ (A : Nat) (t : TypeId) (cs : Array Value), Blk W A t cs → t ≠ 57 → Blk (W.setCell ⟨k, m * 3 + 2, none⟩ (.int .i64 x)) A t cs := by
  obtain ⟨vs, h1, h2⟩ := h.ex
  obtain ⟨b, cap, h3, h4⟩ := h2 i n hn
  obtain ⟨k, rfl, hk, hI⟩ := h4 (by omega)
  have hi := (List.getElem?_eq_some_iff.1 hn).1
  rcases h1.2 with ⟨_, e⟩ | ⟨g, cp, cur, rfl, hbg, hg, _⟩
  · omega
  obtain ⟨z, hz, hf⟩ := hI.cell (j := m * 3 + 2) (by omega)
  have hgk : g ≠ k := fun e => by
    obtain ⟨c2, h6, _⟩ := hI
    rw [← e, hg] at h6
    have := Option.some.inj h6
    simp only [Obj.cells.injEq] at this
    exact absurd this.2.1 (by decide)
  refine ⟨g, cp, k, cap, rfl, by rw [h1.cellAt i (by omega)]; exact h3, hk, hbg, z, hz, hf, fun x => ⟨⟨vs, ?_, fun j n' hn' => ?_⟩, fun A t cs hA ht => hA.other _ _ _ (fun e => ?_)⟩⟩
  · refine ⟨h1.1, ?_⟩
    rcases h1.2 with hh | ⟨g', cp', cur', e, hb', hg', rest⟩
    · exact .inl hh
    · cases e
      exact .inr ⟨g, cp, cur', rfl, hb', (Below.heap_setCell W ⟨k, m * 3 + 2, none⟩ _ g (by simpa using hgk)).trans hg', rest⟩
  · obtain ⟨b', cap', h5, h6⟩ := h2 j n' hn'
    refine ⟨b', cap', h5, fun h0 => ?_⟩
    obtain ⟨q, e, h7, h8⟩ := h6 h0
    exact ⟨q, e, h7, h8.set k _ x⟩
  · obtain ⟨c2, h6, _⟩ := hI
    unfold Blk at hA
    rw [e, h6] at hA
    have := Option.some.inj hA
    simp only [Obj.cells.injEq] at this
    exact ht this.2.1.symm
/-- A box with calendars: where it lies, what lies in it. -/
structure BX where
  B : Nat
  bn : Option Addr
  bl : Option Addr
  cn : Nat
  cl : Nat
  y : Yd
/-- Boxes with calendars, all of them as they may be read. -/
def Boxes (W : World) (L : List BX) : Prop := ∀ x ∈ L, Blk W x.B 42 #[.int .i64 x.y.d.x, .int .i64 x.y.d.y, .int .i64 x.y.d.z, (.slice x.bn x.y.ns.length x.cn), (.slice x.bl x.y.ls.length x.cl)] ∧ CC W x.bn x.y.ns ∧ CC W x.bl x.y.ls
theorem Boxes.keep {W W' : World} {L : List BX} (h : Boxes W L) (hb : Below W.heap.size W W') : Boxes W' L := fun x hx => ⟨(h x hx).1.below hb, (h x hx).2.1.keep hb, (h x hx).2.2.keep hb⟩
theorem Boxes.keepN {W W' : World} {L : List BX} {N : Nat} {w0 : World} (h : Boxes w0 L) (hN : N = w0.heap.size) (hb : Below N w0 W') : Boxes W' L := by subst hN; exact h.keep hb
theorem Boxes.ys {W : World} {L : List BX} (h : Boxes W L) {x : BX} (hx : x ∈ L) : YS W (.agg #[.int .i64 x.y.d.x, .int .i64 x.y.d.y, .int .i64 x.y.d.z, (.slice x.bn x.y.ns.length x.cn), (.slice x.bl x.y.ls.length x.cl)]) x.y := ⟨x.bn, x.bl, x.cn, x.cl, rfl, (h x hx).2.1, (h x hx).2.2⟩
theorem Boxes.cons {W : World} {L : List BX} (h : Boxes W L) {x : BX} (h1 : Blk W x.B 42 #[.int .i64 x.y.d.x, .int .i64 x.y.d.y, .int .i64 x.y.d.z, (.slice x.bn x.y.ns.length x.cn), (.slice x.bl x.y.ls.length x.cl)]) (h2 : CC W x.bn x.y.ns) (h3 : CC W x.bl x.y.ls) : Boxes W (x :: L) := by
  intro y hy
  rcases List.mem_cons.1 hy with rfl | hy
  · exact ⟨h1, h2, h3⟩
  · exact h y hy
end

section
open Go.RowKit Go.Shelf

/-- Calendars of as many midplanes as may be. -/
structure CW (w : World) (base : Option Addr) (ns : List (List Sl)) : Prop where
  rd : CR w base ns
  many : ns.length ≤ 100000
  small : ∀ c ∈ ns, c.length ≤ 10000
theorem CW.keep {w W : World} {base : Option Addr} {ns : List (List Sl)} (h : CW w base ns) (hb : Below w.heap.size w W) : CW W base ns := ⟨h.rd.keep hb, h.many, h.small⟩
theorem CW.at {w : World} {base : Option Addr} {ns : List (List Sl)} (h : CW w base ns) {i : Nat} {c : List Sl} (hc : ns[i]? = some c) :
    ∃ g o b cap, base = some ⟨g, o, none⟩ ∧ w.cell? ⟨g, o + i, none⟩ = some (Value.slice b c.length cap) ∧ g < w.heap.size ∧ CIn w b c ∧ c.length ≤ cap ∧ (b = none → cap = 0) := by
  obtain ⟨g, o, b, cap, h1, h2, h3, h4, h5, h6⟩ := h.rd.at hc
  have := h.small c (List.mem_of_getElem? hc)
  exact ⟨g, o, b, cap, h1, h2, h3, ⟨h4, by omega⟩, h5, h6⟩
theorem CC.cw {w : World} {base : Option Addr} {ns : List (List Sl)} (h : CC w base ns) : CW w base ns := ⟨h.rd, by have := h.many; omega, h.small⟩
theorem LO.cw {w : World} {B : Nat} {v : Value} {ns : List (List Sl)} (h : LO w B v ns) (h1 : ns.length ≤ 100000) (h2 : ∀ c ∈ ns, c.length ≤ 10000) : ∃ base cap, v = .slice base ns.length cap ∧ CW w base ns := by
  obtain ⟨vs, h3, h4⟩ := h.ex
  obtain ⟨base, cap, e, hr, hc⟩ := own_rd h3
  refine ⟨base, cap, e, ⟨⟨vs, hr, fun i c hic => ?_⟩, h1, h2⟩⟩
  obtain ⟨u, h5, h6⟩ := h4 i c hic
  obtain ⟨b, cp, e2, h7, h8, h9⟩ := (cal_of_own h6 (by have := h2 c (List.mem_of_getElem? hic); omega)).ex
  exact ⟨b, cp, by rw [h5, e2], h7.rd, h8, h9⟩
set_option maxRecDepth 100000 in set_option maxHeartbeats 4000000 in
theorem wide_lists (ba bb : Option Addr) (ca cb : Nat) (a b : List (List Sl)) (w : World) (ha : CW w ba a) (hb : CW w bb b) :
    Calls Try.prog 91 #[.slice ba a.length ca, .slice bb b.length cb] w (RB w (.bool (decide (a = b)))) := by
  have HA := Lib.hid ha
  have HB2 := Lib.hid hb
  have h9 := ha.many
  have h8 := hb.many
  clear ha hb
  by_cases hlen : a.length = b.length
  · have heq : ((a.length : Int) == (b.length : Int)) = true := beq_iff_eq.2 (by omega)
    have HL := Lib.hid hlen
    clear hlen
    go_enter Try.func91, Try.ntmps91
    go_wp2_with fail
    go_loopw [5] (fun i wr => ∃ k : Nat, k ≤ a.length ∧ i = .int .i64 k ∧ a.take k = b.take k ∧ Below w.heap.size w wr) (fun i _ => a.length - (intOf i).toNat)
    case atStart => exact ⟨0, Nat.zero_le _, rfl, by simp, by (repeat (first | (with_reducible exact Below.refl _ _) | (with_reducible assumption) | (with_reducible refine below_alloc ?_ _) | (with_reducible refine below_drewN ?_ _) | (with_reducible refine Below.drew ?_) | (with_reducible refine below_then ?_ (by with_reducible assumption)) | (with_reducible refine Below.setCell ?_ (by go_size) _)))⟩
    case round =>
      obtain ⟨k, hk, rfl, h0, hbel⟩ := hrel
      have H0 := Lib.hid h0
      have HB := Lib.hid hbel
      have hsz := hbel.size
      clear h0 hbel
      by_cases hlt : k < a.length
      · have hlt2 : k < b.length := by have := HL.out; omega
        obtain ⟨c, hc⟩ : ∃ c, a[k]? = some c := ⟨_, List.getElem?_eq_getElem hlt⟩
        obtain ⟨d, hd⟩ : ∃ d, b[k]? = some d := ⟨_, List.getElem?_eq_getElem hlt2⟩
        obtain ⟨g, o, p, cap, e, hcell, hgl, hcs, _⟩ := (HA.out.keep HB.out).at hc
        obtain ⟨g2, o2, p2, cap2, e2, hcell2, hgl2, hcs2, _⟩ := (HB2.out.keep HB.out).at hd
        subst e
        subst e2
        by_cases hcd : c = d
        · have HM := Lib.hid (fun (x : Aft wr) => Calls.aft_of (x := x) (Calls.rb_eq (ref08_Same p p2 cap cap2 c d x.to (hcs.keep x.h) (hcs2.keep x.h)) (show Value.bool (decide (c = d)) = .bool true by rw [decide_eq_true hcd])))
          have H1 := Lib.hid (same_takes hc hd H0.out hcd)
          clear hcs hcs2 hc hd hcd
          go_wp2_with (refine wp_region_aft (by kernel_rfl) (by kernel_rfl) ?_; (repeat (any_goals (first | go_big_quiet_step (with_reducible exact HM.out _) | quiet_step (with_reducible exact HM.out _) | (refine wpQuiet_step (fun K hK => ?_); go_simp; split <;> (refine hK _ ?_; clear hK K))))); all_goals (refine wpQuiet_nil ?_; intro wq hw'; obtain ⟨x1, hx1⟩ := hw'; have hbq := x1.h; rw [← hx1] at hbq; clear hx1 x1))
          all_goals
            go_roundw
            case rel => exact ⟨k + 1, by omega, by go_num, H1.out, below_then HB.out (by (repeat (first | (with_reducible exact Below.refl _ _) | (with_reducible assumption) | (with_reducible refine below_alloc ?_ _) | (with_reducible refine below_drewN ?_ _) | (with_reducible refine Below.drew ?_) | (with_reducible refine below_then ?_ (by with_reducible assumption)) | (with_reducible refine Below.setCell ?_ (by go_size) _))))⟩
            case measure => (simp [intOf] <;> omega)
        · have HM := Lib.hid (fun (x : Aft wr) => Calls.aft_of (x := x) (Calls.rb_eq (ref08_Same p p2 cap cap2 c d x.to (hcs.keep x.h) (hcs2.keep x.h)) (show Value.bool (decide (c = d)) = .bool false by rw [decide_eq_false hcd])))
          have HNo := Lib.hid (show decide (a = b) = false from decide_eq_false (fun e => by rw [e, hd] at hc; exact hcd (Option.some.inj hc).symm))
          clear hcs hcs2 hc hd hcd
          go_wp2_with (refine wp_region_aft (by kernel_rfl) (by kernel_rfl) ?_; (repeat (any_goals (first | go_big_quiet_step (with_reducible exact HM.out _) | quiet_step (with_reducible exact HM.out _) | (refine wpQuiet_step (fun K hK => ?_); go_simp; split <;> (refine hK _ ?_; clear hK K))))); all_goals (refine wpQuiet_nil ?_; intro wq hw'; obtain ⟨x1, hx1⟩ := hw'; have hbq := x1.h; rw [← hx1] at hbq; clear hx1 x1))
          all_goals
            go_returns
            exact ⟨by (first | (rw [HNo.out]; done) | (rw [HNo.out]; rfl) | (rw [HNo.out]; simp; done)), below_then HB.out (by (repeat (first | (with_reducible exact Below.refl _ _) | (with_reducible assumption) | (with_reducible refine below_alloc ?_ _) | (with_reducible refine below_drewN ?_ _) | (with_reducible refine Below.drew ?_) | (with_reducible refine below_then ?_ (by with_reducible assumption)) | (with_reducible refine Below.setCell ?_ (by go_size) _))))⟩
      · obtain rfl : k = a.length := by omega
        have HY := Lib.hid (show decide (a = b) = true by have := H0.out; rw [List.take_length, HL.out, List.take_length] at this; exact decide_eq_true this)
        go_wp2_with fail
        go_returns
        exact ⟨by (first | (rw [HY.out]; done) | (rw [HY.out]; rfl) | (rw [HY.out]; simp; done)), HB.out⟩
  · have heq : ((a.length : Int) == (b.length : Int)) = false := beq_eq_false_iff_ne.2 (by omega)
    have HNo := Lib.hid (show decide (a = b) = false from decide_eq_false (fun e => hlen (by rw [e])))
    clear hlen
    go_enter Try.func91, Try.ntmps91
    go_wp2_with fail
    go_returns
    exact ⟨by (first | (rw [HNo.out]; done) | (rw [HNo.out]; rfl) | (rw [HNo.out]; simp; done)), by (repeat (first | (with_reducible exact Below.refl _ _) | (with_reducible assumption) | (with_reducible refine below_alloc ?_ _) | (with_reducible refine below_drewN ?_ _) | (with_reducible refine Below.drew ?_) | (with_reducible refine below_then ?_ (by with_reducible assumption)) | (with_reducible refine Below.setCell ?_ (by go_size) _)))⟩
set_option maxRecDepth 100000 in set_option maxHeartbeats 4000000 in
theorem wide_Same (d e : V3) (bn bl bm bk : Option Addr) (cn cl cm ck : Nat) (ns ls ms ks : List (List Sl)) (w : World) (hn : CW w bn ns) (hl : CW w bl ls) (hm : CW w bm ms) (hk : CW w bk ks) :
    Calls Try.prog 33 #[.agg #[.int .i64 d.x, .int .i64 d.y, .int .i64 d.z, (.slice bn ns.length cn), (.slice bl ls.length cl)], .agg #[.int .i64 e.x, .int .i64 e.y, .int .i64 e.z, (.slice bm ms.length cm), (.slice bk ks.length ck)]] w (RB w (.bool (Yd.same ⟨d, ns, ls⟩ ⟨e, ms, ks⟩))) := by
  have M1 := Lib.hid (fun W (h : Below w.heap.size w W) => wide_lists bn bm cn cm ns ms W (hn.keep h) (hm.keep h))
  have M2 := Lib.hid (fun W (h : Below w.heap.size w W) => wide_lists bl bk cl ck ls ks W (hl.keep h) (hk.keep h))
  have hgd : Try.prog.eqGuardType Try.prog.depth 39 = false := by kernel_rfl
  clear hn hl hm hk
  cases h1 : decide (d = e) with
  | true =>
    have heq : ∀ w, (binOp .eql 39 (.agg #[.int .i64 d.x, .int .i64 d.y, .int .i64 d.z]) (.agg #[.int .i64 e.x, .int .i64 e.y, .int .i64 e.z])).run Try.prog w = .ok (.bool true) w := fun w => by rw [run_eql_dims, h1]
    cases h2 : decide (ns = ms) with
    | true =>
      have HR := Lib.hid (show Yd.same ⟨d, ns, ls⟩ ⟨e, ms, ks⟩ = decide (ls = ks) by unfold Yd.same; simp only; rw [h1, h2]; rfl)
      rw [h2] at M1
      generalize decide (ls = ks) = z at *
      clear h1 h2
      (go_enter Try.func33, Try.ntmps33; go_wp2_with (first | ((with_reducible refine (M1.out _ (by (repeat (first | (with_reducible exact Below.refl _ _) | (with_reducible assumption) | (with_reducible refine below_alloc ?_ _) | (with_reducible refine below_drewN ?_ _) | (with_reducible refine Below.drew ?_) | (with_reducible refine below_then ?_ (by with_reducible assumption)) | (with_reducible refine Below.setCell ?_ (by go_size) _))))).mono ?_); rintro e w1 ⟨rfl, hb1⟩; (obtain ⟨hc1, hf1⟩ := bcell hb1; have hz1 := hb1.size; (try simp at hz1); have hB : Below w.heap.size w w1 := (by (repeat (first | (with_reducible exact Below.refl _ _) | (with_reducible assumption) | (with_reducible refine below_alloc ?_ _) | (with_reducible refine below_drewN ?_ _) | (with_reducible refine Below.drew ?_) | (with_reducible refine below_then ?_ (by with_reducible assumption)) | (with_reducible refine Below.setCell ?_ (by go_size) _)))); obtain ⟨hcB, hfB⟩ := bcell hB; (try have z0 : w.heap.size < w1.heap.size := by omega); (try have z1 : w.heap.size + 1 < w1.heap.size := by omega); (try have z2 : w.heap.size + 2 < w1.heap.size := by omega); (try have z3 : w.heap.size + 3 < w1.heap.size := by omega))) | ((with_reducible refine (M2.out _ (by (repeat (first | (with_reducible exact Below.refl _ _) | (with_reducible assumption) | (with_reducible refine below_alloc ?_ _) | (with_reducible refine below_drewN ?_ _) | (with_reducible refine Below.drew ?_) | (with_reducible refine below_then ?_ (by with_reducible assumption)) | (with_reducible refine Below.setCell ?_ (by go_size) _))))).mono ?_); rintro e w1 ⟨rfl, hb1⟩; (obtain ⟨hc1, hf1⟩ := bcell hb1; have hz1 := hb1.size; (try simp at hz1); have hB : Below w.heap.size w w1 := (by (repeat (first | (with_reducible exact Below.refl _ _) | (with_reducible assumption) | (with_reducible refine below_alloc ?_ _) | (with_reducible refine below_drewN ?_ _) | (with_reducible refine Below.drew ?_) | (with_reducible refine below_then ?_ (by with_reducible assumption)) | (with_reducible refine Below.setCell ?_ (by go_size) _)))); obtain ⟨hcB, hfB⟩ := bcell hB; (try have z0 : w.heap.size < w1.heap.size := by omega); (try have z1 : w.heap.size + 1 < w1.heap.size := by omega); (try have z2 : w.heap.size + 2 < w1.heap.size := by omega); (try have z3 : w.heap.size + 3 < w1.heap.size := by omega)))); go_returns; exact ⟨by (first | (rw [HR.out]; done) | (rw [HR.out]; rfl) | (rw [HR.out]; simp; done)), by (repeat (first | (with_reducible exact Below.refl _ _) | (with_reducible assumption) | (with_reducible refine below_alloc ?_ _) | (with_reducible refine below_drewN ?_ _) | (with_reducible refine Below.drew ?_) | (with_reducible refine below_then ?_ (by with_reducible assumption)) | (with_reducible refine Below.setCell ?_ (by go_size) _)))⟩)
    | false =>
      have HR := Lib.hid (show Yd.same ⟨d, ns, ls⟩ ⟨e, ms, ks⟩ = false by unfold Yd.same; simp only; rw [h2]; simp)
      rw [h2] at M1
      clear h1 h2
      (go_enter Try.func33, Try.ntmps33; go_wp2_with (first | ((with_reducible refine (M1.out _ (by (repeat (first | (with_reducible exact Below.refl _ _) | (with_reducible assumption) | (with_reducible refine below_alloc ?_ _) | (with_reducible refine below_drewN ?_ _) | (with_reducible refine Below.drew ?_) | (with_reducible refine below_then ?_ (by with_reducible assumption)) | (with_reducible refine Below.setCell ?_ (by go_size) _))))).mono ?_); rintro e w1 ⟨rfl, hb1⟩; (obtain ⟨hc1, hf1⟩ := bcell hb1; have hz1 := hb1.size; (try simp at hz1); have hB : Below w.heap.size w w1 := (by (repeat (first | (with_reducible exact Below.refl _ _) | (with_reducible assumption) | (with_reducible refine below_alloc ?_ _) | (with_reducible refine below_drewN ?_ _) | (with_reducible refine Below.drew ?_) | (with_reducible refine below_then ?_ (by with_reducible assumption)) | (with_reducible refine Below.setCell ?_ (by go_size) _)))); obtain ⟨hcB, hfB⟩ := bcell hB; (try have z0 : w.heap.size < w1.heap.size := by omega); (try have z1 : w.heap.size + 1 < w1.heap.size := by omega); (try have z2 : w.heap.size + 2 < w1.heap.size := by omega); (try have z3 : w.heap.size + 3 < w1.heap.size := by omega))) | ((with_reducible refine (M2.out _ (by (repeat (first | (with_reducible exact Below.refl _ _) | (with_reducible assumption) | (with_reducible refine below_alloc ?_ _) | (with_reducible refine below_drewN ?_ _) | (with_reducible refine Below.drew ?_) | (with_reducible refine below_then ?_ (by with_reducible assumption)) | (with_reducible refine Below.setCell ?_ (by go_size) _))))).mono ?_); rintro e w1 ⟨rfl, hb1⟩; (obtain ⟨hc1, hf1⟩ := bcell hb1; have hz1 := hb1.size; (try simp at hz1); have hB : Below w.heap.size w w1 := (by (repeat (first | (with_reducible exact Below.refl _ _) | (with_reducible assumption) | (with_reducible refine below_alloc ?_ _) | (with_reducible refine below_drewN ?_ _) | (with_reducible refine Below.drew ?_) | (with_reducible refine below_then ?_ (by with_reducible assumption)) | (with_reducible refine Below.setCell ?_ (by go_size) _)))); obtain ⟨hcB, hfB⟩ := bcell hB; (try have z0 : w.heap.size < w1.heap.size := by omega); (try have z1 : w.heap.size + 1 < w1.heap.size := by omega); (try have z2 : w.heap.size + 2 < w1.heap.size := by omega); (try have z3 : w.heap.size + 3 < w1.heap.size := by omega)))); go_returns; exact ⟨by (first | (rw [HR.out]; done) | (rw [HR.out]; rfl) | (rw [HR.out]; simp; done)), by (repeat (first | (with_reducible exact Below.refl _ _) | (with_reducible assumption) | (with_reducible refine below_alloc ?_ _) | (with_reducible refine below_drewN ?_ _) | (with_reducible refine Below.drew ?_) | (with_reducible refine below_then ?_ (by with_reducible assumption)) | (with_reducible refine Below.setCell ?_ (by go_size) _)))⟩)
  | false =>
    have heq : ∀ w, (binOp .eql 39 (.agg #[.int .i64 d.x, .int .i64 d.y, .int .i64 d.z]) (.agg #[.int .i64 e.x, .int .i64 e.y, .int .i64 e.z])).run Try.prog w = .ok (.bool false) w := fun w => by rw [run_eql_dims, h1]
    have HR := Lib.hid (show Yd.same ⟨d, ns, ls⟩ ⟨e, ms, ks⟩ = false by unfold Yd.same; simp only; rw [h1]; rfl)
    clear h1
    (go_enter Try.func33, Try.ntmps33; go_wp2_with (first | ((with_reducible refine (M1.out _ (by (repeat (first | (with_reducible exact Below.refl _ _) | (with_reducible assumption) | (with_reducible refine below_alloc ?_ _) | (with_reducible refine below_drewN ?_ _) | (with_reducible refine Below.drew ?_) | (with_reducible refine below_then ?_ (by with_reducible assumption)) | (with_reducible refine Below.setCell ?_ (by go_size) _))))).mono ?_); rintro e w1 ⟨rfl, hb1⟩; (obtain ⟨hc1, hf1⟩ := bcell hb1; have hz1 := hb1.size; (try simp at hz1); have hB : Below w.heap.size w w1 := (by (repeat (first | (with_reducible exact Below.refl _ _) | (with_reducible assumption) | (with_reducible refine below_alloc ?_ _) | (with_reducible refine below_drewN ?_ _) | (with_reducible refine Below.drew ?_) | (with_reducible refine below_then ?_ (by with_reducible assumption)) | (with_reducible refine Below.setCell ?_ (by go_size) _)))); obtain ⟨hcB, hfB⟩ := bcell hB; (try have z0 : w.heap.size < w1.heap.size := by omega); (try have z1 : w.heap.size + 1 < w1.heap.size := by omega); (try have z2 : w.heap.size + 2 < w1.heap.size := by omega); (try have z3 : w.heap.size + 3 < w1.heap.size := by omega))) | ((with_reducible refine (M2.out _ (by (repeat (first | (with_reducible exact Below.refl _ _) | (with_reducible assumption) | (with_reducible refine below_alloc ?_ _) | (with_reducible refine below_drewN ?_ _) | (with_reducible refine Below.drew ?_) | (with_reducible refine below_then ?_ (by with_reducible assumption)) | (with_reducible refine Below.setCell ?_ (by go_size) _))))).mono ?_); rintro e w1 ⟨rfl, hb1⟩; (obtain ⟨hc1, hf1⟩ := bcell hb1; have hz1 := hb1.size; (try simp at hz1); have hB : Below w.heap.size w w1 := (by (repeat (first | (with_reducible exact Below.refl _ _) | (with_reducible assumption) | (with_reducible refine below_alloc ?_ _) | (with_reducible refine below_drewN ?_ _) | (with_reducible refine Below.drew ?_) | (with_reducible refine below_then ?_ (by with_reducible assumption)) | (with_reducible refine Below.setCell ?_ (by go_size) _)))); obtain ⟨hcB, hfB⟩ := bcell hB; (try have z0 : w.heap.size < w1.heap.size := by omega); (try have z1 : w.heap.size + 1 < w1.heap.size := by omega); (try have z2 : w.heap.size + 2 < w1.heap.size := by omega); (try have z3 : w.heap.size + 3 < w1.heap.size := by omega)))); go_returns; exact ⟨by (first | (rw [HR.out]; done) | (rw [HR.out]; rfl) | (rw [HR.out]; simp; done)), by (repeat (first | (with_reducible exact Below.refl _ _) | (with_reducible assumption) | (with_reducible refine below_alloc ?_ _) | (with_reducible refine below_drewN ?_ _) | (with_reducible refine Below.drew ?_) | (with_reducible refine below_then ?_ (by with_reducible assumption)) | (with_reducible refine Below.setCell ?_ (by go_size) _)))⟩)
/-! ### sizes -/
def Yd.small (y : Yd) : Prop := (y.ns.length ≤ 1000 ∧ ∀ c ∈ y.ns, c.length ≤ 10000) ∧ (y.ls.length ≤ 1000 ∧ ∀ c ∈ y.ls, c.length ≤ 10000)
theorem zero_small : Yd.zero.small := ⟨⟨by decide, fun c h => by cases h⟩, ⟨by decide, fun c h => by cases h⟩⟩
theorem calE_len {c : List Sl} (h : calE c = 0) : c.length ≤ 10000 := by have := (calE_ok h).2; omega
theorem yPutV_small {y : Yd} {ms ks : List Nat} {s : Sl} (h : y.small) : (yPutV y ms ks s).small := by
  unfold yPutV
  by_cases he : yPutE y ms ks s = 0
  · rw [if_pos he]
    have hp := yPut_ok he
    have hA := Yd.ok_all hp.ok
    refine ⟨⟨?_, fun c hc => calE_len (calAll_ok hp.n0 hA.1 c hc)⟩, ⟨?_, fun c hc => calE_len (calAll_ok hp.l0 hA.2 c hc)⟩⟩
    · show (calTo ms s y.ns y.ns.length).length ≤ 1000; rw [calTo_len]; exact h.1.1
    · show (calTo ks s y.ls y.ls.length).length ≤ 1000; rw [calTo_len]; exact h.2.1
  · rw [if_neg he]; exact zero_small
theorem yCutV_small {y : Yd} {ow tm : Int} (h : y.small) : (yCutV ow tm y).small := by
  unfold yCutV
  split
  · refine ⟨⟨?_, fun c hc => ?_⟩, ⟨?_, fun c hc => ?_⟩⟩
    · show (y.ns.map (cutV ow tm)).length ≤ 1000; rw [List.length_map]; exact h.1.1
    · obtain ⟨x, hx, rfl⟩ := List.mem_map.1 hc; exact Nat.le_trans (cutV_len ow tm x) (h.1.2 x hx)
    · show (y.ls.map (cutV ow tm)).length ≤ 1000; rw [List.length_map]; exact h.2.1
    · obtain ⟨x, hx, rfl⟩ := List.mem_map.1 hc; exact Nat.le_trans (cutV_len ow tm x) (h.2.2 x hx)
  · exact zero_small
theorem newV_wide (d : V3) : ((newV d).ns.length ≤ 100000 ∧ ∀ c ∈ (newV d).ns, c.length ≤ 10000) ∧ ((newV d).ls.length ≤ 100000 ∧ ∀ c ∈ (newV d).ls, c.length ≤ 10000) := by
  unfold newV
  split
  · next h =>
    have := V3.n_le h
    refine ⟨⟨?_, fun c hc => ?_⟩, ⟨?_, fun c hc => ?_⟩⟩
    · simp; omega
    · rw [(List.mem_replicate.1 hc).2]; simp
    · simp; omega
    · rw [(List.mem_replicate.1 hc).2]; simp
  · exact ⟨⟨by decide, fun c h => by cases h⟩, ⟨by decide, fun c h => by cases h⟩⟩
end
end Go.Proofs.Ytfikgjcmnooglaa
