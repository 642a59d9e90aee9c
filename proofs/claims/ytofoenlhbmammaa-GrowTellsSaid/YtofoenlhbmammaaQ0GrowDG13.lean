/- BOXES in lists: a closure asked of each; a list copied; those struck of which a closure says so: Go's own text walked. -/
import Derived.Lib.SliceRun
import Derived.Test.YtofoenlhbmammaaQ0GrowAG13
set_option linter.unusedVariables false
set_option linter.unusedSimpArgs false
namespace Go.Proofs.Ytofoenlhbmammaa

section
open Go.RowKit Go.Shelf

set_option maxRecDepth 100000 in set_option maxHeartbeats 4000000 in
theorem bxs_index (g : Nat) (lb : Array Value) (p : Bx → Bool) (base : Option Addr) (cap : Nat) (l : List Bx) (w : World) (hl : XIn w base l) (eg : ∀ args w, (callFunc g args).run Try.prog w = .ok (.enter g args) w)
    (hf : ∀ x ∈ l, ∀ W, Below w.heap.size w W → Calls Try.prog g (#[.agg #[.int .i64 x.b.x, .int .i64 x.b.y, .int .i64 x.b.z, .int .i64 x.s.x, .int .i64 x.s.y, .int .i64 x.s.z]] ++ lb) W (RB W (.bool (p x)))) :
    Calls Try.prog 65 #[.slice base l.length cap, .func (.func g) #[] lb] w (RB w (.int .i64 (firstOf p l))) := by
  have HL := Lib.hid hl
  have HF := Lib.hid hf
  have hlen := hl.len
  clear hl hf
  go_enter Try.func65, Try.ntmps65
  go_wp2_with fail
  go_loopw [8] (fun i wr => ∃ k : Nat, k ≤ l.length ∧ i = .int .i64 k ∧ (l.take k).any p = false ∧ Below w.heap.size w wr) (fun i _ => l.length - (intOf i).toNat)
  case atStart => exact ⟨0, Nat.zero_le _, rfl, by simp, by (repeat (first | (with_reducible exact Below.refl _ _) | (with_reducible assumption) | (with_reducible refine below_alloc ?_ _) | (with_reducible refine below_drewN ?_ _) | (with_reducible refine Below.drew ?_) | (with_reducible refine below_then ?_ (by with_reducible assumption)) | (with_reducible refine Below.setCell ?_ (by go_size) _)))⟩
  case round =>
    obtain ⟨k, hk, rfl, h0, hb⟩ := hrel
    have HB := Lib.hid hb
    have H0 := Lib.hid h0
    clear hb h0
    by_cases hlt : k < l.length
    · obtain ⟨b, off, rfl, hO⟩ := (HL.out.keep HB.out).at hlt
      have hx := Lib.hid (any_take_succ hlt H0.out)
      have HP := Lib.hid (fun h => firstOf_at hlt H0.out h)
      have HA := Lib.hid (HF.out l[k] (List.getElem_mem hlt))
      obtain ⟨x, hxx⟩ : ∃ x, x = l[k] := ⟨_, rfl⟩
      rw [← hxx] at hO hx HA HP
      obtain ⟨c0, c1, c2, c3, c4, c5, hcl⟩ := hO
      clear hxx
      cases hp : p x with
      | false =>
        rw [hp] at hx HA
        clear hp HP
        go_wp2_with ((with_reducible refine (HA.out _ (by with_reducible exact HB.out)).mono ?_); rintro e w3 ⟨rfl, hb3⟩)
        go_roundw
        case rel => exact ⟨k + 1, by omega, by go_num, hx.out, HB.out.trans (hb3.mono HB.out.size)⟩
        case measure => (simp [intOf] <;> omega)
      | true =>
        rw [hp] at HA
        have HP2 := Lib.hid (HP.out hp)
        clear hp HP hx
        go_wp2_with ((with_reducible refine (HA.out _ (by with_reducible exact HB.out)).mono ?_); rintro e w3 ⟨rfl, hb3⟩)
        go_returns
        exact ⟨by rw [HP2.out]; rfl, HB.out.trans (hb3.mono HB.out.size)⟩
    · obtain rfl : k = l.length := by omega
      have hn := Lib.hid (firstOf_no (by have := H0.out; rwa [List.take_length] at this))
      clear H0
      go_wp2_with fail
      go_returns
      exact ⟨by rw [hn.out]; rfl, HB.out⟩
set_option maxRecDepth 100000 in set_option maxHeartbeats 4000000 in
theorem bxs_contains (g : Nat) (lb : Array Value) (p : Bx → Bool) (base : Option Addr) (cap : Nat) (l : List Bx) (w : World) (hl : XIn w base l) (eg : ∀ args w, (callFunc g args).run Try.prog w = .ok (.enter g args) w)
    (hf : ∀ x ∈ l, ∀ W, Below w.heap.size w W → Calls Try.prog g (#[.agg #[.int .i64 x.b.x, .int .i64 x.b.y, .int .i64 x.b.z, .int .i64 x.s.x, .int .i64 x.s.y, .int .i64 x.s.z]] ++ lb) W (RB W (.bool (p x)))) :
    Calls Try.prog 39 #[.slice base l.length cap, .func (.func g) #[] lb] w (RB w (.bool (l.any p))) := by
  have HS := Lib.hid (bxs_index g lb p base cap l w hl eg hf)
  have hn := Lib.hid (firstOf_ge p l)
  clear hl hf
  generalize firstOf p l = x at *
  go_enter Try.func39, Try.ntmps39
  go_wp2_with fail
  refine HS.out.mono ?_
  rintro e w1 ⟨rfl, hb1⟩
  go_wp2_with fail
  go_returns
  exact ⟨by rw [← hn.out]; rfl, hb1⟩
theorem bxc_ones (c : List Bx) : ∀ u ∈ bxc c, u.oneCell' = true := by
  intro u hu
  unfold bxc at hu
  obtain ⟨s, _, h⟩ := List.mem_flatMap.1 hu
  simp [Bx.cells] at h
  rcases h with rfl | rfl | rfl | rfl | rfl | rfl <;> rfl
set_option maxRecDepth 100000 in set_option maxHeartbeats 4000000 in
theorem bxs_Clone (ba : Option Addr) (ca : Nat) (c : List Bx) (w : World) (hr : Rd w ba (bxc c)) (hna : ba = none → c.length = 0) (hl : c.length ≤ 100000) :
    Calls Try.prog 37 #[.slice ba c.length ca] w (RX w c) := by
  obtain ⟨i0, hi, iz0, iz1, iz2⟩ := info_parts infoBox
  have q22 : ∀ (w : World) (a : Option Addr) (n c n' c' : Nat), (binOp .eql 30 (.slice a n c) (.slice none n' c')).run Try.prog w = .ok (.bool a.isNone) w := fun w a n c n' c' => Lib.run_eql_slice_nil w _ _ a n c n' c' Try.underlying30
  cases ba with
  | none =>
    obtain rfl : c = [] := List.eq_nil_of_length_eq_zero (hna rfl)
    clear hna hr hl
    go_enter Try.func37, Try.ntmps37
    go_wp2_with fail
    go_returns
    exact ⟨_, rfl, ⟨rfl, .inl ⟨rfl, rfl⟩⟩, by (repeat (first | (with_reducible exact Below.refl _ _) | (with_reducible assumption) | (with_reducible refine below_alloc ?_ _) | (with_reducible refine below_drewN ?_ _) | (with_reducible refine Below.drew ?_) | (with_reducible refine below_then ?_ (by with_reducible assumption)) | (with_reducible refine Below.setCell ?_ (by go_size) _)))⟩
  | some a =>
    have HR := Lib.hid hr
    clear hr hna
    go_enter Try.func37, Try.ntmps37
    go_wp2_with (at_builtin; refine wpList_append_own _ rfl _ _ 30 rfl w.heap.size 27 i0 (.agg #[.int .i64 0, .int .i64 0, .int .i64 0, .int .i64 0, .int .i64 0, .int .i64 0]) 6 48 Try.underlying30 hi iz0 iz1 iz2 rfl (by decide) _ _ _ rfl (World.ownsRow_made w #[] 0 (Nat.le_refl _) (Nat.zero_le _) (by simp)) a c.length ca (bxc c) rfl (bxc_len c) ?qc2 (bxc_ones c) ?qc4 ?qc5 ?qc6 ?_)
    case qc2 =>
      intro j u hj
      obtain ⟨b, off, e, h⟩ := HR.out j u hj
      cases e
      rw [Addr.add_lit]
      exact Lib.cell?_alloc_some _ h
    case qc4 => unfold maxLen; omega
    case qc5 => omega
    case qc6 => simp
    intro v' w1 hown hgrow hnil
    go_wp2_with fail
    go_returns
    exact ⟨_, rfl, by simpa using hown, ((Below.refl _ w).alloc (Nat.le_refl _) _).grown hgrow (by simp) (by intro k hk; simp [Value.ownBlock] at hk; omega)⟩

/-! ### those struck of which a closure says so -/
theorem run_clear_many (w : World) (t e : TypeId) (z : Value) (ht : Try.prog.underlying t = some (.slice e)) (hv : ∀ w, (zeroValue e).run Try.prog w = .ok z w) (h1 : ∀ u ∈ z.cells, u.oneCell' = true) (b o n c : Nat) (hn : 0 < n) (hz : 0 < z.cells.size)
    (hc : ∀ j, j < n * z.cells.size → (w.cell? ⟨b, o + j, none⟩).isSome = true) (hf : ∀ j, j < n * z.cells.size → w.frozen? ⟨b, o + j, none⟩ = false) :
    ∃ zs : List Value, zs.length = n * z.cells.size ∧ ∀ ty, (Builtin.clear_ #[t] ty #[.slice (some ⟨b, o, none⟩) n c]).run Try.prog w = .ok (.tuple #[]) (w.setCells b o zs) := by
  refine ⟨(Builtin.zeroCells z.cells n).toList, by simp [Builtin.zeroCells], fun ty => ?_⟩
  have hst := run_storeCells_cells (P := Try.prog) b o (Builtin.zeroCells z.cells n).toList 0 w (by simpa [Builtin.zeroCells] using hc) (by simpa [Builtin.zeroCells] using hf) (by
    intro v hv'
    simp only [Builtin.zeroCells, Array.toList_map, List.mem_map] at hv'
    obtain ⟨i, _, rfl⟩ := hv'
    have hlt : i % z.cells.size < z.cells.size := Nat.mod_lt _ hz
    rw [getElem!_pos z.cells _ hlt]
    exact h1 _ (Array.getElem_mem hlt))
  simp only [Nat.add_zero] at hst
  obtain ⟨m, rfl⟩ : ∃ m, n = m + 1 := ⟨n - 1, by omega⟩
  simp [Builtin.clear_, run_underlying ht, hv, hst]
theorem blk_setCells {t : TypeId} {b : Nat} : ∀ (vs : List Value) (o : Nat) (w : World) (cs : Array Value), Blk w b t cs → ∃ cs', Blk (w.setCells b o vs) b t cs' ∧ cs'.size = cs.size ∧ ∀ k, k < o → cs'[k]? = cs[k]?
  | [], o, w, cs, h => ⟨cs, h, rfl, fun _ _ => rfl⟩
  | v :: r, o, w, cs, h => by
    obtain ⟨cs', h1, h2, h3⟩ := blk_setCells r (o + 1) (w.setCell ⟨b, o, none⟩ v) _ (h.set o v)
    refine ⟨cs', h1, by simpa using h2, fun k hk => ?_⟩
    rw [h3 k (by omega), Array.getElem?_setIfInBounds]
    rw [if_neg (by omega)]
theorem below_setCellsB {B b : Nat} (hb : B ≤ b) : ∀ (vs : List Value) (o : Nat) (w : World), Below B w (w.setCells b o vs)
  | [], _, w => Below.refl _ _
  | v :: r, o, w => ((Below.refl B w).setCell (p := ⟨b, o, none⟩) hb v).trans (below_setCellsB hb r (o + 1) _)
/-- How far the striking has come: i are kept of the first j; behind them all lies as it lay. -/
structure Struck (p : Bx → Bool) (l : List Bx) (cap i j : Nat) (cs : Array Value) : Prop where
  size : cs.size = cap * 6
  kept : i = ((l.take j).filter (fun x => !p x)).length
  lt : i < j
  low : cs.toList.take (i * 6) = bxc ((l.take j).filter (fun x => !p x))
  high : ∀ k, j ≤ k → (h : k < l.length) → ∀ t, t < 6 → cs[k * 6 + t]? = l[k].cells[t]?
/-- Six cells set. -/
def set6 (cs : Array Value) (o : Nat) (x : Bx) : Array Value := (((((cs.setIfInBounds o (.int .i64 x.b.x)).setIfInBounds (o + 1) (.int .i64 x.b.y)).setIfInBounds (o + 2) (.int .i64 x.b.z)).setIfInBounds (o + 3) (.int .i64 x.s.x)).setIfInBounds (o + 4) (.int .i64 x.s.y)).setIfInBounds (o + 5) (.int .i64 x.s.z)
theorem set6_size (cs : Array Value) (o : Nat) (x : Bx) : (set6 cs o x).size = cs.size := by simp [set6]
theorem set6_out (cs : Array Value) (o : Nat) (x : Bx) {k : Nat} (h : k < o ∨ o + 6 ≤ k) : (set6 cs o x)[k]? = cs[k]? := by
  unfold set6
  simp only [Array.getElem?_setIfInBounds]
  rw [if_neg (by omega), if_neg (by omega), if_neg (by omega), if_neg (by omega), if_neg (by omega), if_neg (by omega)]
theorem set6_in (cs : Array Value) (o : Nat) (x : Bx) (h : o + 6 ≤ cs.size) {t : Nat} (ht : t < 6) : (set6 cs o x)[o + t]? = x.cells[t]? := by
  unfold set6
  simp only [Array.getElem?_setIfInBounds, Array.size_setIfInBounds]
  match t, ht with
  | 0, _ => rw [if_neg (by omega), if_neg (by omega), if_neg (by omega), if_neg (by omega), if_neg (by omega), if_pos (by omega), if_pos (by omega)]; rfl
  | 1, _ => rw [if_neg (by omega), if_neg (by omega), if_neg (by omega), if_neg (by omega), if_pos (by omega), if_pos (by omega)]; rfl
  | 2, _ => rw [if_neg (by omega), if_neg (by omega), if_neg (by omega), if_pos (by omega), if_pos (by omega)]; rfl
  | 3, _ => rw [if_neg (by omega), if_neg (by omega), if_pos (by omega), if_pos (by omega)]; rfl
  | 4, _ => rw [if_neg (by omega), if_pos (by omega), if_pos (by omega)]; rfl
  | 5, _ => rw [if_pos (by omega), if_pos (by omega)]; rfl
theorem set6_low (cs : Array Value) (o : Nat) (x : Bx) (h : o + 6 ≤ cs.size) : (set6 cs o x).toList.take (o + 6) = cs.toList.take o ++ x.cells := by
  refine List.ext_getElem? (fun k => ?_)
  by_cases h1 : k < o
  · rw [List.getElem?_take_of_lt (by omega), List.getElem?_append_left (by rw [List.length_take, Array.length_toList]; omega), List.getElem?_take_of_lt h1, Array.getElem?_toList, Array.getElem?_toList, set6_out cs o x (.inl h1)]
  · by_cases h2 : k < o + 6
    · rw [List.getElem?_take_of_lt h2, List.getElem?_append_right (by rw [List.length_take, Array.length_toList]; omega), Array.getElem?_toList, List.length_take, Array.length_toList, Nat.min_eq_left (by omega)]
      have := set6_in cs o x h (t := k - o) (by omega)
      rwa [show o + (k - o) = k by omega] at this
    · rw [List.getElem?_eq_none (by rw [List.length_take]; omega), List.getElem?_eq_none (by rw [List.length_append, List.length_take, Array.length_toList]; simp [Bx.cells]; omega)]
theorem filter_take_succ {p : Bx → Bool} {l : List Bx} {j : Nat} (hj : j < l.length) : (l.take (j + 1)).filter p = (l.take j).filter p ++ (if p l[j] then [l[j]] else []) := by
  rw [List.take_succ_eq_append_getElem hj, List.filter_append]
  congr 1
  cases h : p l[j] <;> simp [h]
theorem Struck.keep {p : Bx → Bool} {l : List Bx} {cap i j : Nat} {cs : Array Value} (h : Struck p l cap i j cs) (hj : j < l.length) (hcap : l.length ≤ cap) (hp : p l[j] = false) : Struck p l cap (i + 1) (j + 1) (set6 cs (i * 6) l[j]) := by
  have hs : i * 6 + 6 ≤ cs.size := by rw [h.size]; have := h.lt; omega
  have hf : (l.take (j + 1)).filter (fun x => !p x) = (l.take j).filter (fun x => !p x) ++ [l[j]] := by rw [filter_take_succ hj, hp]; rfl
  refine ⟨by rw [set6_size]; exact h.size, ?_, by have := h.lt; omega, ?_, fun k hk hkl t ht => ?_⟩
  · rw [hf, List.length_append, ← h.kept]; rfl
  · rw [hf, bxc_app, bxc_one, ← h.low, show (i + 1) * 6 = i * 6 + 6 by omega]
    exact set6_low cs (i * 6) l[j] hs
  · rw [set6_out cs _ _ (.inr (by have := h.lt; omega))]
    exact h.high k (by omega) hkl t ht
theorem Struck.skip {p : Bx → Bool} {l : List Bx} {cap i j : Nat} {cs : Array Value} (h : Struck p l cap i j cs) (hj : j < l.length) (hp : p l[j] = true) : Struck p l cap i (j + 1) cs := by
  have hf : (l.take (j + 1)).filter (fun x => !p x) = (l.take j).filter (fun x => !p x) := by rw [filter_take_succ hj, hp]; simp
  refine ⟨h.size, by rw [hf]; exact h.kept, by have := h.lt; omega, by rw [hf]; exact h.low, fun k hk hkl t ht => h.high k (by omega) hkl t ht⟩
theorem firstOf_cases (p : Bx → Bool) (l : List Bx) : (firstOf p l = -1 ∧ l.filter (fun x => !p x) = l) ∨ ∃ k, ∃ h : k < l.length, firstOf p l = (k : Int) ∧ p l[k] = true ∧ (l.take k).filter (fun x => !p x) = l.take k := by
  cases ha : l.any p with
  | false =>
    refine .inl ⟨firstOf_no ha, List.filter_eq_self.2 (fun x hx => ?_)⟩
    have := List.any_eq_false.1 ha x hx
    simpa using this
  | true =>
    have hlt : l.findIdx p < l.length := List.findIdx_lt_length_of_exists (by simpa using ha)
    refine .inr ⟨l.findIdx p, hlt, by unfold firstOf; rw [if_pos ha], List.findIdx_getElem, List.filter_eq_self.2 (fun x hx => ?_)⟩
    obtain ⟨i, hi, rfl⟩ := List.mem_take_iff_getElem.1 hx
    have h2 := List.not_of_lt_findIdx (xs := l) (p := p) (i := i) (by omega)
    simp [h2]
end
end Go.Proofs.Ytofoenlhbmammaa
