/- PLACE: what is taken along an axis. -/
import Derived.Maps.AppendAt
import Derived.Test.YtofoenlhbmammaaGreatQ7F11
import Derived.Test.YtofoenlhbmammaaGreatQ0PlaceAF11
import Derived.Test.YtofoenlhbmammaaGreatQ0WireRunF11
set_option linter.unusedVariables false
set_option linter.unusedSimpArgs false
namespace Go.Proofs.YtofoenlhbmammaaGreat

section
section
section
open Go.RowKit Go.Shelf

theorem wpList_addA {P : Program} {ops : Array Oper} {rest : List Oper} {o : Oper} {a : Act} {Q : Exit → Act → World → Prop} (w : World) (hgd : o.guard = none) (s x : Operand) (t : TypeId)
    (ho : o.op = .call { callee := .builtin .append, args := #[s, x], argTypes := #[t, t] })
    (e : TypeId) (i : TypeInfo) (z : Value) (size bytes : Nat) (ht : P.underlying t = some (.slice e)) (hi : P.info? e = some i) (hz : i.zero = some z)
    (hsize : i.size = size) (hby : i.bytes = bytes) (hzs : z.cells.size = size) (hsz : 0 < size) (hb8 : bytes ≤ 100000)
    (L : Nat) (hL : L ≤ w.heap.size) (sv : Value) (hs : a.eval s = sv) (n : Nat) (xs : List Value) (own0 : w.ownsRow L e size sv n xs) (ao : Option Addr) (m c : Nat) (news : List Value) (hx : a.eval x = .slice ao m c) (hl : news.length = m * size)
    (hnil : ao = none → m = 0 ∧ c = 0) (hr : Rd w ao news) (h1 : ∀ u ∈ news, u.oneCell' = true) (hm : n + m ≤ 100000000)
    (h : ∀ v' w', w'.ownsRow L e size v' (n + m) (xs ++ news) → w.grownBy w' sv.ownBlock → (v'.ownBlock = sv.ownBlock ∨ v'.ownBlock = some w.heap.size) → wpList P ops Q rest (a.put o.dst v') w') : wpList P ops Q (o :: rest) a w := by
  cases ao with
  | some ad =>
    refine wpList_append_own_at w hgd s x t ho L e i z size bytes ht hi hz hsize hby hzs hsz sv n xs hs own0 ad m c news hx hl ?_ h1 ?_ ?_ hL ?_
    · intro j u hu
      obtain ⟨b, off, e, hc⟩ := hr j u hu
      cases e
      rw [Addr.add_lit]
      exact hc
    · unfold maxLen; omega
    · exact Nat.le_trans (Nat.mul_le_mul hm hb8) (by decide)
    · intro v' w' r1 r2 _ r4
      exact h v' w' r1 r2 r4
  | none =>
    obtain ⟨rfl, rfl⟩ := hnil rfl
    have hnews : news = [] := List.eq_nil_of_length_eq_zero (by simpa using hl)
    subst hnews
    refine wpList_plain hgd fun K hK' => ?_
    have hrun := run_append_owned_none (P := P) w L t o.type e i size ht hi _ n xs own0
    unfold Oper.wp
    simp [execOp, ho, resolve, invoke, builtin, hs, hx, hrun, Result.andThen]
    exact hK' _ _ (h _ w (by simpa using own0) ⟨rfl, rfl, rfl, Nat.le_refl _, fun _ _ _ => rfl⟩ (.inl rfl))
theorem own_none {W : World} {B : Nat} {e : TypeId} {sz : Nat} {ba : Option Addr} {n ca : Nat} {xs : List Value} (h : W.ownsRow B e sz (.slice ba n ca) n xs) (hn : ba = none) : n = 0 ∧ ca = 0 := by
  rcases h.2 with ⟨e1, h2⟩ | ⟨g, cap, cur, e1, _⟩
  · cases e1; exact ⟨rfl, rfl⟩
  · cases e1; cases hn
theorem own_apart {W : World} {B b : Nat} {e : TypeId} {sz n : Nat} {v : Value} {xs : List Value} (h : W.ownsRow B e sz v n xs) (hb : b < B) : v.ownBlock ≠ some b := by
  rcases h.2 with ⟨e1, _⟩ | ⟨g, cap, cur, e1, hg, _⟩
  · subst e1; intro h; cases h
  · subst e1; intro h; simp [Value.ownBlock] at h; omega
theorem own_grown {W W' : World} {b : Nat} {t : TypeId} {cs : Array Value} {v : Value} (h : Blk W b t cs) (hg : W.grownBy W' v.ownBlock) (hv : v.ownBlock ≠ some b) : Blk W' b t cs := (hg.block b h.lt (fun e => hv e.symm)).trans h
/-- A box that is one long along an axis, from where it is. -/
def Bx.thin (b : Bx) (k : Nat) : Bx := ⟨b.b, b.s.put k 1⟩
theorem Bx.thin_may {d : V3} {b : Bx} (hb : b.may d) (k : Nat) (hk : k < 3) : (b.thin k).may d := by
  obtain ⟨hx, hy, hz⟩ := hb
  match k, hk with
  | 0, _ => exact ⟨⟨⟨Int.le_refl _, show (1 : Int) ≤ d.x by omega⟩, hx.2⟩, hy, hz⟩
  | 1, _ => exact ⟨hx, ⟨⟨Int.le_refl _, show (1 : Int) ≤ d.y by omega⟩, hy.2⟩, hz⟩
  | 2, _ => exact ⟨hx, hy, ⟨⟨Int.le_refl _, show (1 : Int) ≤ d.z by omega⟩, hz.2⟩⟩
/-- The cables of lines that begin at midplanes. -/
def cabsOf (d : V3) (p : Pl) (k : Nat) (l : List Int) : List Int := l.flatMap (fun m => d.runV k m (p.b.s.at k) (p.tor k))
def cabs (d : V3) (p : Pl) (k : Nat) : List Int := cabsOf d p k ((p.b.thin k).all d)
def cabsV (d : V3) (p : Pl) : List Int := cabs d p 0 ++ cabs d p 1 ++ cabs d p 2
theorem cabsOf_snoc (d : V3) (p : Pl) (k : Nat) (l : List Int) (m : Int) : cabsOf d p k (l ++ [m]) = cabsOf d p k l ++ d.runV k m (p.b.s.at k) (p.tor k) := by unfold cabsOf; rw [List.flatMap_append]; simp
theorem cabsOf_len (d : V3) (p : Pl) (k : Nat) (l : List Int) : (cabsOf d p k l).length ≤ 16 * l.length := by
  unfold cabsOf
  induction l with
  | nil => simp
  | cons m l ih =>
    have := d.runV_len k m (p.b.s.at k) (p.tor k)
    rw [List.flatMap_cons, List.length_append, List.length_cons]
    omega
theorem Bx.mem_all' {d : V3} {b : Bx} {m : Int} (h : m ∈ b.all d) : 0 ≤ m ∧ m < d.n := by
  unfold Bx.all Bx.upto at h
  obtain ⟨h1, _⟩ := List.mem_filter.1 h
  obtain ⟨j, hj, rfl⟩ := List.mem_map.1 h1
  have := List.mem_range.1 hj
  omega
theorem Bx.all_len' (d : V3) (b : Bx) (hd : d.may) : (b.all d).length ≤ 4096 := by
  have := b.upto_len d d.n.toNat
  have := V3.n_le hd
  show (b.upto d d.n.toNat).length ≤ 4096
  omega
def ic' (l : List Int) : List Value := l.map (Value.int .i64)
theorem ic'_len (l : List Int) : (ic' l).length = l.length := List.length_map ..
theorem ic'_one (l : List Int) : ∀ u ∈ ic' l, u.oneCell' = true := by
  intro u hu
  obtain ⟨x, _, rfl⟩ := List.mem_map.1 hu
  rfl
/-- A list in a cell, and its row behind it. -/
structure AtL (W : World) (Bl : Nat) (v : Value) (l : List Int) : Prop where
  blk : Blk W Bl 83 #[v]
  row : W.ownsRow (Bl + 1) 3 1 v l.length (ic' l)
end

section
open Go.RowKit Go.Shelf

theorem along_run {d : V3} {p : Pl} (hd : d.may) (hb : p.b.may d) {k : Nat} (hk : k < 3) {m : Int} (W : World) (hm : 0 ≤ m ∧ m < d.n) :
    Calls Tryz.prog 94 #[.agg #[.int .i64 d.x, .int .i64 d.y, .int .i64 d.z], .int .i64 k, .int .i64 m, .int .i64 (p.b.s.at k), .bool (p.tor k)] W (RLE W (d.runV k m (p.b.s.at k) (p.tor k)) 0) := by
  have h := wire_Run d k m (p.b.s.at k) (p.tor k) W
  have ha : d.askE k m = 0 := by rw [V3.askE, if_pos hd, if_pos ⟨⟨by omega, by omega⟩, hm⟩]
  have hs : 1 ≤ p.b.s.at k ∧ p.b.s.at k ≤ d.at k := by
    obtain ⟨hx, hy, hz⟩ := hb
    match k, hk with
    | 0, _ => exact hx.1
    | 1, _ => exact hy.1
    | 2, _ => exact hz.1
  rw [show d.runE k m (p.b.s.at k) = 0 by rw [V3.runE, if_pos ha, Int.toNat_natCast, if_pos hs]] at h
  exact h

theorem own_lt {W : World} {B : Nat} {e : TypeId} {sz : Nat} {v : Value} {n : Nat} {xs : List Value} {g : Nat} (h : W.ownsRow B e sz v n xs) (hg : v.ownBlock = some g) : g < W.heap.size := by
  rcases h.2 with ⟨e1, _⟩ | ⟨g1, c1, cur1, e1, hg1, hh, _⟩
  · subst e1; cases hg
  · subst e1
    simp [Value.ownBlock] at hg
    have := (Array.getElem?_eq_some_iff.1 hh).1
    omega
theorem hl_keep {W W' : World} {Bl : Nat} {v : Value} {l : List Int} (h : AtL W Bl v l) (hb : Below W.heap.size W W') : AtL W' Bl v l := ⟨h.blk.below hb, own_keep h.row hb⟩
theorem own_sep {W W' : World} {B B' : Nat} {e e' : TypeId} {v u : Value} {n m : Nat} {xs ys : List Value} (h : W.ownsRow B e 1 v n xs) (h' : W'.ownsRow B' e' 1 u m ys) (hb : W.heap.size ≤ B') : ∀ g, u.ownBlock = some g → v.ownBlock ≠ some g := by
  intro g hg hv
  rcases h'.2 with ⟨e1, _⟩ | ⟨g1, c1, cur1, e1, hg1, _⟩
  · subst e1; cases hg
  · subst e1
    rcases h.2 with ⟨e2, _⟩ | ⟨g2, c2, cur2, e2, _, hh, _⟩
    · subst e2; cases hv
    · subst e2
      simp [Value.ownBlock] at hg hv
      have := (Array.getElem?_eq_some_iff.1 hh).1
      omega
theorem row_grown {W W' : World} {B : Nat} {e : TypeId} {v : Value} {n : Nat} {xs : List Value} {r : Option Nat} (h : W.ownsRow B e 1 v n xs) (hg : W.grownBy W' r) (hs : ∀ g, v.ownBlock = some g → r ≠ some g) : W'.ownsRow B e 1 v n xs := by
  refine ⟨h.1, ?_⟩
  rcases h.2 with e1 | ⟨g1, c1, cur1, e1, hg1, hh, r1⟩
  · exact .inl e1
  · exact .inr ⟨g1, c1, cur1, e1, hg1, (hg.block g1 (Array.getElem?_eq_some_iff.1 hh).1 (fun e2 => hs g1 (by rw [e1]; rfl) e2.symm)).trans hh, r1⟩
theorem row_set {W : World} {B b k : Nat} {e : TypeId} {v : Value} {n : Nat} {xs : List Value} (u : Value) (h : W.ownsRow B e 1 v n xs) (hb : b < B) : (W.setCell ⟨b, k, none⟩ u).ownsRow B e 1 v n xs := by
  refine ⟨h.1, ?_⟩
  rcases h.2 with e1 | ⟨g1, c1, cur1, e1, hg1, hh, r1⟩
  · exact .inl e1
  · exact .inr ⟨g1, c1, cur1, e1, hg1, (Below.heap_setCell W ⟨b, k, none⟩ u g1 (by show g1 ≠ b; omega)).trans hh, r1⟩

set_option maxRecDepth 100000 in set_option maxHeartbeats 4000000 in
theorem place_along0 (d : V3) (p : Pl) (Bp Bd Bl : Nat) (v : Value) (xs : List Int) (w : World) (hd : d.may) (hb : p.b.may d) (bp : Blk w Bp 31 #[.int .i64 p.b.b.x, .int .i64 p.b.b.y, .int .i64 p.b.b.z, .int .i64 p.b.s.x, .int .i64 p.b.s.y, .int .i64 p.b.s.z, .bool p.t0, .bool p.t1, .bool p.t2]) (bd : Blk w Bd 23 #[.int .i64 d.x, .int .i64 d.y, .int .i64 d.z]) (hl : AtL w Bl v xs) (h1 : Bp < Bl) (h2 : Bd < Bl) (hx : xs.length ≤ 200000) :
    Calls Tryz.prog 93 #[.int .i64 0, .pointer (some ⟨Bp, 0, none⟩), .pointer (some ⟨Bd, 0, none⟩), .pointer (some ⟨Bl, 0, none⟩)] w (fun e w' => (∃ u, e = .returned u) ∧ Below Bl w w' ∧ (∀ b, b < w.heap.size → b ≠ Bl → v.ownBlock ≠ some b → w'.heap[b]? = w.heap[b]?) ∧ ∃ v', AtL w' Bl v' (xs ++ cabs d p 0) ∧ (∀ g, v'.ownBlock = some g → v.ownBlock = some g ∨ w.heap.size ≤ g)) := by
  obtain ⟨i0, hi, iz0, iz1, iz2⟩ := info_parts infoInt
  have HN := Lib.hid (fun W => show Calls Tryz.prog 92 #[.agg #[.int .i64 d.x, .int .i64 d.y, .int .i64 d.z], .agg #[.int .i64 p.b.b.x, .int .i64 p.b.b.y, .int .i64 p.b.b.z, .int .i64 1, .int .i64 p.b.s.y, .int .i64 p.b.s.z]] W (RIE W ((p.b.thin 0).all d) 0) from box_Nodes_ok d (p.b.thin 0) W hd (Bx.thin_may hb 0 (by decide)))
  have HLL := Lib.hid (Bx.all_len' d (p.b.thin 0) hd)
  have HR := Lib.hid (fun m W (hm : m ∈ (p.b.thin 0).all d) => along_run (d := d) (p := p) hd hb (k := 0) (by decide) W (Bx.mem_all' hm))
  have HQ := Lib.hid (show cabs d p 0 = cabsOf d p 0 ((p.b.thin 0).all d) from rfl)
  generalize (p.b.thin 0).all d = L at *
  have HP := Lib.hid bp
  have HD := Lib.hid bd
  have HA := Lib.hid hl
  have c0 := bp.cell 0 _ rfl
  have c1 := bp.cell 1 _ rfl
  have c2 := bp.cell 2 _ rfl
  have c3 := bp.cell 3 _ rfl
  have c4 := bp.cell 4 _ rfl
  have c5 := bp.cell 5 _ rfl
  have e0 := bd.cell 0 _ rfl
  have e1 := bd.cell 1 _ rfl
  have e2 := bd.cell 2 _ rfl
  have l1 := bp.lt
  have l2 := bd.lt
  have l3 := hl.blk.lt
  clear bp bd hl hd hb
  go_enter Tryz.func93, Tryz.ntmps93
  go_wp2_with fail
  refine (HN.out _).mono ?_
  rintro e w2 ⟨vL, rfl, oL, hb2⟩
  obtain ⟨bL, cL, rfl, _, _⟩ := own_rd oL
  have HB2 := Lib.hid (below_then (show Below w.heap.size w (w.alloc (.cells #[.int .i64 p.b.b.x, .int .i64 p.b.b.y, .int .i64 p.b.b.z, .int .i64 1, .int .i64 p.b.s.y, .int .i64 p.b.s.z] 28)) by (repeat (first | (with_reducible exact Below.refl _ _) | (with_reducible assumption) | (with_reducible refine below_alloc ?_ _) | (with_reducible refine below_drewN ?_ _) | (with_reducible refine Below.drew ?_) | (with_reducible refine below_then ?_ (by with_reducible assumption)) | (with_reducible refine Below.setCell ?_ (by go_size) _)))) hb2)
  rw [World.size_alloc] at oL
  have A2 := Lib.hid (hl_keep HA.out HB2.out)
  have hsep := own_sep HA.out.row oL (by omega)
  have OL := Lib.hid (show w2.ownsRow (w.heap.size + 1) 3 1 (.slice bL L.length cL) L.length (ic' L) from oL)
  have HSEP := Lib.hid hsep
  clear oL hb2 hsep c0 c1 c2 c3 c4 c5 e0 e1 e2
  go_wp2_with fail
  go_loopw [25] (fun x wr => ∃ (i : Nat) (v' : Value), i ≤ L.length ∧ x = .int .i64 i ∧ Below Bl w wr ∧ AtL wr Bl v' (xs ++ cabsOf d p 0 (L.take i)) ∧ wr.ownsRow (w.heap.size + 1) 3 1 (.slice bL L.length cL) L.length (ic' L) ∧ (∀ g, Value.ownBlock (.slice bL L.length cL) = some g → v'.ownBlock ≠ some g) ∧ (∀ b, b < w.heap.size → b ≠ Bl → v.ownBlock ≠ some b → wr.heap[b]? = w.heap[b]?) ∧ (∀ g, v'.ownBlock = some g → v.ownBlock = some g ∨ w.heap.size ≤ g)) (fun x _ => L.length - (intOf x).toNat)
  case atStart => exact ⟨0, v, Nat.zero_le _, rfl, HB2.out.mono (by omega), by rw [List.take_zero, show cabsOf d p 0 [] = [] from rfl, List.append_nil]; exact A2.out, OL.out, HSEP.out, fun b hb _ _ => HB2.out.block b hb, fun g hg => .inl hg⟩
  case round =>
    obtain ⟨i, v', hi', rfl, hbel, hat, hrow, hsp, hk1, hk2⟩ := hrel
    have HAT := Lib.hid hat
    have HROW := Lib.hid hrow
    have HSP := Lib.hid hsp
    have HK1 := Lib.hid hk1
    have HK2 := Lib.hid hk2
    clear hk1 hk2
    have HBE := Lib.hid hbel
    by_cases hlt : i < L.length
    · obtain ⟨bx, cx, e, rd, _⟩ := own_rd hrow
      cases e
      obtain ⟨g0, off, e, hc⟩ := rd i _ (getElem?_map_int hlt)
      subst e
      obtain ⟨m, hm⟩ : ∃ m, m = L[i] := ⟨_, rfl⟩
      obtain ⟨R, hRR⟩ : ∃ R, R = d.runV ((0 : Nat) : Int) m (p.b.s.at 0) (p.tor 0) := ⟨_, rfl⟩
      have HRM := Lib.hid (fun W => show Calls Tryz.prog 94 #[.agg #[.int .i64 d.x, .int .i64 d.y, .int .i64 d.z], .int .i64 0, .int .i64 m, .int .i64 p.b.s.x, .bool p.t0] W (RLE W R 0) from by have := HR.out m W (by rw [hm]; exact List.getElem_mem hlt); rw [← hRR] at this; exact this)
      rw [← hm] at hc
      have htk := Lib.hid (show cabsOf d p 0 (L.take (i + 1)) = cabsOf d p 0 (L.take i) ++ R by rw [List.take_succ_eq_append_getElem hlt, cabsOf_snoc, ← hm, hRR])
      have hrl := d.runV_len ((0 : Nat) : Int) m (p.b.s.at 0) (p.tor 0)
      rw [← hRR] at hrl
      have hcl := cabsOf_len d p 0 (L.take i)
      rw [List.length_take] at hcl
      have hll := HLL.out
      have bp := HP.out.keep hbel h1
      have bd := HD.out.keep hbel h2
      have e0 := bd.cell 0 _ rfl
      have e1 := bd.cell 1 _ rfl
      have e2 := bd.cell 2 _ rfl
      have p1 := bp.cell 3 _ rfl
      have p2 := bp.cell 6 _ rfl
      have l1' := bp.lt
      have l2' := bd.lt
      have l3' := hat.blk.lt
      have zr := hbel.size
      have mixed : Tryz.prog.follows .mixedOrders = true := by kernel_rfl
      clear bp bd hat hrow hsp hbel rd hm hRR
      go_wp2_with fail
      go_region_with (go_at_call 94; (with_reducible refine (HRM.out _).mono ?_); rintro e w3 ⟨vr, rfl, or3, hb3⟩)
      all_goals
        obtain ⟨ar, cr, rfl, rr, _⟩ := own_rd or3
        have hb3' := below_then (show Below wr.heap.size wr _ by (repeat (first | (with_reducible exact Below.refl _ _) | (with_reducible assumption) | (with_reducible refine below_alloc ?_ _) | (with_reducible refine below_drewN ?_ _) | (with_reducible refine Below.drew ?_) | (with_reducible refine below_then ?_ (by with_reducible assumption)) | (with_reducible refine Below.setCell ?_ (by go_size) _)))) hb3
        have A3 := hl_keep HAT.out hb3'
        have R3 := own_keep HROW.out hb3'
        have hnil := own_none or3
        have HB3w := Lib.hid hb3'
        have hb3s := hb3'.size
        have HB3 := Lib.hid (hb3'.mono (show Bl ≤ wr.heap.size by omega))
        have a0 := A3.blk.cell 0 _ rfl
        have z3 := A3.blk.lt
        have HA3 := Lib.hid A3
        have HR3 := Lib.hid R3
        have HRR := Lib.hid rr
        have hxl : (xs ++ cabsOf d p 0 (L.take i)).length = xs.length + (cabsOf d p 0 (L.take i)).length := List.length_append
        clear or3 hb3 hb3' A3 R3 rr e0 e1 e2 p1 p2 hc
        go_wp2_with (at_builtin; refine wpList_addA _ rfl _ _ 83 rfl 3 i0 (.int .i64 0) 1 8 Tryz.underlying83 hi iz0 iz1 iz2 rfl (by decide) (by decide) (Bl + 1) ?q1 _ rfl _ _ HA3.out.row ar R.length cr (ic' R) rfl ?q2 hnil HRR.out (ic'_one R) ?q5 ?_)
        case q1 => omega
        case q2 => rw [ic'_len]; omega
        case q5 => omega
        intro v4 w4 o4 g4 at4
        obtain ⟨b4, c4, e4, _, _⟩ := own_rd o4
        have n4 := own_below HA3.out.row g4 (by omega)
        have B4 := own_grown HA3.out.blk g4 (own_apart HA3.out.row (by omega))
        have R4 := row_grown HR3.out g4 (fun g hg => HSP.out g hg)
        have S4 : ∀ g, Value.ownBlock (.slice (some ⟨g0, off, none⟩) L.length cL) = some g → v4.ownBlock ≠ some g := fun g hg he => by
          rcases at4 with e | e
          · exact HSP.out g hg (e ▸ he)
          · have := own_lt HR3.out hg
            rw [e] at he
            cases he
            omega
        have zz := HBE.out.size
        have zy := hb3s
        have K1 : ∀ b, b < w.heap.size → b ≠ Bl → v.ownBlock ≠ some b → (w4.setCell ⟨Bl, 0, none⟩ v4).heap[b]? = w.heap[b]? := fun b hb hne hv => by
          rw [Below.heap_setCell w4 ⟨Bl, 0, none⟩ v4 b hne, g4.block b (by omega) (fun e => by rcases HK2.out b e.symm with h | h; exact hv h; omega), HB3w.out.block b (by omega)]
          exact HK1.out b hb hne hv
        have K2 : ∀ g, v4.ownBlock = some g → v.ownBlock = some g ∨ w.heap.size ≤ g := fun g hg => by
          rcases at4 with e | e
          · exact HK2.out g (e ▸ hg)
          · rw [e] at hg
            cases hg
            right
            omega
        have HKA := Lib.hid K1
        have HKB := Lib.hid K2
        have hb4 := (HBE.out.trans HB3.out).trans (n4.mono (by omega))
        have b40 := B4.cell 0 _ rfl
        have f40 := B4.frozen 0
        have HB4 := Lib.hid B4
        have HR4 := Lib.hid R4
        have o5 := o4
        rw [show xs.length + (cabsOf d p 0 (L.take i)).length + R.length = (xs ++ (cabsOf d p 0 (L.take i) ++ R)).length by rw [List.length_append, List.length_append]; omega, show ic' (xs ++ cabsOf d p 0 (L.take i)) ++ ic' R = ic' (xs ++ (cabsOf d p 0 (L.take i) ++ R)) by simp [ic']] at o5
        rw [← htk.out] at o5
        have HO4 := Lib.hid o5
        have HS4 := Lib.hid S4
        have HE4 := Lib.hid hb4
        clear B4 R4 o4 g4 at4 n4 S4 hb4 a0 hxl K1 K2 o5
        subst e4
        go_wp2_with fail
        go_roundw
        case rel => exact ⟨i + 1, _, by omega, by go_num, HE4.out.setCell (p := ⟨Bl, 0, none⟩) (by simp) _, ⟨HB4.out.set 0 _, row_set _ HO4.out (by omega)⟩, row_set _ HR4.out (by omega), HS4.out, HKA.out, HKB.out⟩
        case measure => (simp [intOf] <;> omega)
    · obtain rfl : i = L.length := by omega
      rw [List.take_length] at hat
      have HAT2 := Lib.hid hat
      clear hat hrow hsp hbel
      go_wp2_with fail
      go_end0
      exact ⟨⟨_, rfl⟩, HBE.out, HK1.out, v', by rw [HQ.out]; exact HAT2.out, HK2.out⟩
end
end

section
section
open Go.RowKit Go.Shelf


set_option maxRecDepth 100000 in set_option maxHeartbeats 4000000 in
theorem place_along1 (d : V3) (p : Pl) (Bp Bd Bl : Nat) (v : Value) (xs : List Int) (w : World) (hd : d.may) (hb : p.b.may d) (bp : Blk w Bp 31 #[.int .i64 p.b.b.x, .int .i64 p.b.b.y, .int .i64 p.b.b.z, .int .i64 p.b.s.x, .int .i64 p.b.s.y, .int .i64 p.b.s.z, .bool p.t0, .bool p.t1, .bool p.t2]) (bd : Blk w Bd 23 #[.int .i64 d.x, .int .i64 d.y, .int .i64 d.z]) (hl : AtL w Bl v xs) (h1 : Bp < Bl) (h2 : Bd < Bl) (hx : xs.length ≤ 200000) :
    Calls Tryz.prog 93 #[.int .i64 1, .pointer (some ⟨Bp, 0, none⟩), .pointer (some ⟨Bd, 0, none⟩), .pointer (some ⟨Bl, 0, none⟩)] w (fun e w' => (∃ u, e = .returned u) ∧ Below Bl w w' ∧ (∀ b, b < w.heap.size → b ≠ Bl → v.ownBlock ≠ some b → w'.heap[b]? = w.heap[b]?) ∧ ∃ v', AtL w' Bl v' (xs ++ cabs d p 1) ∧ (∀ g, v'.ownBlock = some g → v.ownBlock = some g ∨ w.heap.size ≤ g)) := by
  obtain ⟨i0, hi, iz0, iz1, iz2⟩ := info_parts infoInt
  have HN := Lib.hid (fun W => show Calls Tryz.prog 92 #[.agg #[.int .i64 d.x, .int .i64 d.y, .int .i64 d.z], .agg #[.int .i64 p.b.b.x, .int .i64 p.b.b.y, .int .i64 p.b.b.z, .int .i64 p.b.s.x, .int .i64 1, .int .i64 p.b.s.z]] W (RIE W ((p.b.thin 1).all d) 0) from box_Nodes_ok d (p.b.thin 1) W hd (Bx.thin_may hb 1 (by decide)))
  have HLL := Lib.hid (Bx.all_len' d (p.b.thin 1) hd)
  have HR := Lib.hid (fun m W (hm : m ∈ (p.b.thin 1).all d) => along_run (d := d) (p := p) hd hb (k := 1) (by decide) W (Bx.mem_all' hm))
  have HQ := Lib.hid (show cabs d p 1 = cabsOf d p 1 ((p.b.thin 1).all d) from rfl)
  generalize (p.b.thin 1).all d = L at *
  have HP := Lib.hid bp
  have HD := Lib.hid bd
  have HA := Lib.hid hl
  have c0 := bp.cell 0 _ rfl
  have c1 := bp.cell 1 _ rfl
  have c2 := bp.cell 2 _ rfl
  have c3 := bp.cell 3 _ rfl
  have c4 := bp.cell 4 _ rfl
  have c5 := bp.cell 5 _ rfl
  have e0 := bd.cell 0 _ rfl
  have e1 := bd.cell 1 _ rfl
  have e2 := bd.cell 2 _ rfl
  have l1 := bp.lt
  have l2 := bd.lt
  have l3 := hl.blk.lt
  clear bp bd hl hd hb
  go_enter Tryz.func93, Tryz.ntmps93
  go_wp2_with fail
  refine (HN.out _).mono ?_
  rintro e w2 ⟨vL, rfl, oL, hb2⟩
  obtain ⟨bL, cL, rfl, _, _⟩ := own_rd oL
  have HB2 := Lib.hid (below_then (show Below w.heap.size w (w.alloc (.cells #[.int .i64 p.b.b.x, .int .i64 p.b.b.y, .int .i64 p.b.b.z, .int .i64 p.b.s.x, .int .i64 1, .int .i64 p.b.s.z] 28)) by (repeat (first | (with_reducible exact Below.refl _ _) | (with_reducible assumption) | (with_reducible refine below_alloc ?_ _) | (with_reducible refine below_drewN ?_ _) | (with_reducible refine Below.drew ?_) | (with_reducible refine below_then ?_ (by with_reducible assumption)) | (with_reducible refine Below.setCell ?_ (by go_size) _)))) hb2)
  rw [World.size_alloc] at oL
  have A2 := Lib.hid (hl_keep HA.out HB2.out)
  have hsep := own_sep HA.out.row oL (by omega)
  have OL := Lib.hid (show w2.ownsRow (w.heap.size + 1) 3 1 (.slice bL L.length cL) L.length (ic' L) from oL)
  have HSEP := Lib.hid hsep
  clear oL hb2 hsep c0 c1 c2 c3 c4 c5 e0 e1 e2
  go_wp2_with fail
  go_loopw [25] (fun x wr => ∃ (i : Nat) (v' : Value), i ≤ L.length ∧ x = .int .i64 i ∧ Below Bl w wr ∧ AtL wr Bl v' (xs ++ cabsOf d p 1 (L.take i)) ∧ wr.ownsRow (w.heap.size + 1) 3 1 (.slice bL L.length cL) L.length (ic' L) ∧ (∀ g, Value.ownBlock (.slice bL L.length cL) = some g → v'.ownBlock ≠ some g) ∧ (∀ b, b < w.heap.size → b ≠ Bl → v.ownBlock ≠ some b → wr.heap[b]? = w.heap[b]?) ∧ (∀ g, v'.ownBlock = some g → v.ownBlock = some g ∨ w.heap.size ≤ g)) (fun x _ => L.length - (intOf x).toNat)
  case atStart => exact ⟨0, v, Nat.zero_le _, rfl, HB2.out.mono (by omega), by rw [List.take_zero, show cabsOf d p 1 [] = [] from rfl, List.append_nil]; exact A2.out, OL.out, HSEP.out, fun b hb _ _ => HB2.out.block b hb, fun g hg => .inl hg⟩
  case round =>
    obtain ⟨i, v', hi', rfl, hbel, hat, hrow, hsp, hk1, hk2⟩ := hrel
    have HAT := Lib.hid hat
    have HROW := Lib.hid hrow
    have HSP := Lib.hid hsp
    have HK1 := Lib.hid hk1
    have HK2 := Lib.hid hk2
    clear hk1 hk2
    have HBE := Lib.hid hbel
    by_cases hlt : i < L.length
    · obtain ⟨bx, cx, e, rd, _⟩ := own_rd hrow
      cases e
      obtain ⟨g0, off, e, hc⟩ := rd i _ (getElem?_map_int hlt)
      subst e
      obtain ⟨m, hm⟩ : ∃ m, m = L[i] := ⟨_, rfl⟩
      obtain ⟨R, hRR⟩ : ∃ R, R = d.runV ((1 : Nat) : Int) m (p.b.s.at 1) (p.tor 1) := ⟨_, rfl⟩
      have HRM := Lib.hid (fun W => show Calls Tryz.prog 94 #[.agg #[.int .i64 d.x, .int .i64 d.y, .int .i64 d.z], .int .i64 1, .int .i64 m, .int .i64 p.b.s.y, .bool p.t1] W (RLE W R 0) from by have := HR.out m W (by rw [hm]; exact List.getElem_mem hlt); rw [← hRR] at this; exact this)
      rw [← hm] at hc
      have htk := Lib.hid (show cabsOf d p 1 (L.take (i + 1)) = cabsOf d p 1 (L.take i) ++ R by rw [List.take_succ_eq_append_getElem hlt, cabsOf_snoc, ← hm, hRR])
      have hrl := d.runV_len ((1 : Nat) : Int) m (p.b.s.at 1) (p.tor 1)
      rw [← hRR] at hrl
      have hcl := cabsOf_len d p 1 (L.take i)
      rw [List.length_take] at hcl
      have hll := HLL.out
      have bp := HP.out.keep hbel h1
      have bd := HD.out.keep hbel h2
      have e0 := bd.cell 0 _ rfl
      have e1 := bd.cell 1 _ rfl
      have e2 := bd.cell 2 _ rfl
      have p1 := bp.cell 4 _ rfl
      have p2 := bp.cell 7 _ rfl
      have l1' := bp.lt
      have l2' := bd.lt
      have l3' := hat.blk.lt
      have zr := hbel.size
      have mixed : Tryz.prog.follows .mixedOrders = true := by kernel_rfl
      clear bp bd hat hrow hsp hbel rd hm hRR
      go_wp2_with fail
      go_region_with (go_at_call 94; (with_reducible refine (HRM.out _).mono ?_); rintro e w3 ⟨vr, rfl, or3, hb3⟩)
      all_goals
        obtain ⟨ar, cr, rfl, rr, _⟩ := own_rd or3
        have hb3' := below_then (show Below wr.heap.size wr _ by (repeat (first | (with_reducible exact Below.refl _ _) | (with_reducible assumption) | (with_reducible refine below_alloc ?_ _) | (with_reducible refine below_drewN ?_ _) | (with_reducible refine Below.drew ?_) | (with_reducible refine below_then ?_ (by with_reducible assumption)) | (with_reducible refine Below.setCell ?_ (by go_size) _)))) hb3
        have A3 := hl_keep HAT.out hb3'
        have R3 := own_keep HROW.out hb3'
        have hnil := own_none or3
        have HB3w := Lib.hid hb3'
        have hb3s := hb3'.size
        have HB3 := Lib.hid (hb3'.mono (show Bl ≤ wr.heap.size by omega))
        have a0 := A3.blk.cell 0 _ rfl
        have z3 := A3.blk.lt
        have HA3 := Lib.hid A3
        have HR3 := Lib.hid R3
        have HRR := Lib.hid rr
        have hxl : (xs ++ cabsOf d p 1 (L.take i)).length = xs.length + (cabsOf d p 1 (L.take i)).length := List.length_append
        clear or3 hb3 hb3' A3 R3 rr e0 e1 e2 p1 p2 hc
        go_wp2_with (at_builtin; refine wpList_addA _ rfl _ _ 83 rfl 3 i0 (.int .i64 0) 1 8 Tryz.underlying83 hi iz0 iz1 iz2 rfl (by decide) (by decide) (Bl + 1) ?q1 _ rfl _ _ HA3.out.row ar R.length cr (ic' R) rfl ?q2 hnil HRR.out (ic'_one R) ?q5 ?_)
        case q1 => omega
        case q2 => rw [ic'_len]; omega
        case q5 => omega
        intro v4 w4 o4 g4 at4
        obtain ⟨b4, c4, e4, _, _⟩ := own_rd o4
        have n4 := own_below HA3.out.row g4 (by omega)
        have B4 := own_grown HA3.out.blk g4 (own_apart HA3.out.row (by omega))
        have R4 := row_grown HR3.out g4 (fun g hg => HSP.out g hg)
        have S4 : ∀ g, Value.ownBlock (.slice (some ⟨g0, off, none⟩) L.length cL) = some g → v4.ownBlock ≠ some g := fun g hg he => by
          rcases at4 with e | e
          · exact HSP.out g hg (e ▸ he)
          · have := own_lt HR3.out hg
            rw [e] at he
            cases he
            omega
        have zz := HBE.out.size
        have zy := hb3s
        have K1 : ∀ b, b < w.heap.size → b ≠ Bl → v.ownBlock ≠ some b → (w4.setCell ⟨Bl, 0, none⟩ v4).heap[b]? = w.heap[b]? := fun b hb hne hv => by
          rw [Below.heap_setCell w4 ⟨Bl, 0, none⟩ v4 b hne, g4.block b (by omega) (fun e => by rcases HK2.out b e.symm with h | h; exact hv h; omega), HB3w.out.block b (by omega)]
          exact HK1.out b hb hne hv
        have K2 : ∀ g, v4.ownBlock = some g → v.ownBlock = some g ∨ w.heap.size ≤ g := fun g hg => by
          rcases at4 with e | e
          · exact HK2.out g (e ▸ hg)
          · rw [e] at hg
            cases hg
            right
            omega
        have HKA := Lib.hid K1
        have HKB := Lib.hid K2
        have hb4 := (HBE.out.trans HB3.out).trans (n4.mono (by omega))
        have b40 := B4.cell 0 _ rfl
        have f40 := B4.frozen 0
        have HB4 := Lib.hid B4
        have HR4 := Lib.hid R4
        have o5 := o4
        rw [show xs.length + (cabsOf d p 1 (L.take i)).length + R.length = (xs ++ (cabsOf d p 1 (L.take i) ++ R)).length by rw [List.length_append, List.length_append]; omega, show ic' (xs ++ cabsOf d p 1 (L.take i)) ++ ic' R = ic' (xs ++ (cabsOf d p 1 (L.take i) ++ R)) by simp [ic']] at o5
        rw [← htk.out] at o5
        have HO4 := Lib.hid o5
        have HS4 := Lib.hid S4
        have HE4 := Lib.hid hb4
        clear B4 R4 o4 g4 at4 n4 S4 hb4 a0 hxl K1 K2 o5
        subst e4
        go_wp2_with fail
        go_roundw
        case rel => exact ⟨i + 1, _, by omega, by go_num, HE4.out.setCell (p := ⟨Bl, 0, none⟩) (by simp) _, ⟨HB4.out.set 0 _, row_set _ HO4.out (by omega)⟩, row_set _ HR4.out (by omega), HS4.out, HKA.out, HKB.out⟩
        case measure => (simp [intOf] <;> omega)
    · obtain rfl : i = L.length := by omega
      rw [List.take_length] at hat
      have HAT2 := Lib.hid hat
      clear hat hrow hsp hbel
      go_wp2_with fail
      go_end0
      exact ⟨⟨_, rfl⟩, HBE.out, HK1.out, v', by rw [HQ.out]; exact HAT2.out, HK2.out⟩
end

section
open Go.RowKit Go.Shelf


set_option maxRecDepth 100000 in set_option maxHeartbeats 4000000 in
theorem place_along2 (d : V3) (p : Pl) (Bp Bd Bl : Nat) (v : Value) (xs : List Int) (w : World) (hd : d.may) (hb : p.b.may d) (bp : Blk w Bp 31 #[.int .i64 p.b.b.x, .int .i64 p.b.b.y, .int .i64 p.b.b.z, .int .i64 p.b.s.x, .int .i64 p.b.s.y, .int .i64 p.b.s.z, .bool p.t0, .bool p.t1, .bool p.t2]) (bd : Blk w Bd 23 #[.int .i64 d.x, .int .i64 d.y, .int .i64 d.z]) (hl : AtL w Bl v xs) (h1 : Bp < Bl) (h2 : Bd < Bl) (hx : xs.length ≤ 200000) :
    Calls Tryz.prog 93 #[.int .i64 2, .pointer (some ⟨Bp, 0, none⟩), .pointer (some ⟨Bd, 0, none⟩), .pointer (some ⟨Bl, 0, none⟩)] w (fun e w' => (∃ u, e = .returned u) ∧ Below Bl w w' ∧ (∀ b, b < w.heap.size → b ≠ Bl → v.ownBlock ≠ some b → w'.heap[b]? = w.heap[b]?) ∧ ∃ v', AtL w' Bl v' (xs ++ cabs d p 2) ∧ (∀ g, v'.ownBlock = some g → v.ownBlock = some g ∨ w.heap.size ≤ g)) := by
  obtain ⟨i0, hi, iz0, iz1, iz2⟩ := info_parts infoInt
  have HN := Lib.hid (fun W => show Calls Tryz.prog 92 #[.agg #[.int .i64 d.x, .int .i64 d.y, .int .i64 d.z], .agg #[.int .i64 p.b.b.x, .int .i64 p.b.b.y, .int .i64 p.b.b.z, .int .i64 p.b.s.x, .int .i64 p.b.s.y, .int .i64 1]] W (RIE W ((p.b.thin 2).all d) 0) from box_Nodes_ok d (p.b.thin 2) W hd (Bx.thin_may hb 2 (by decide)))
  have HLL := Lib.hid (Bx.all_len' d (p.b.thin 2) hd)
  have HR := Lib.hid (fun m W (hm : m ∈ (p.b.thin 2).all d) => along_run (d := d) (p := p) hd hb (k := 2) (by decide) W (Bx.mem_all' hm))
  have HQ := Lib.hid (show cabs d p 2 = cabsOf d p 2 ((p.b.thin 2).all d) from rfl)
  generalize (p.b.thin 2).all d = L at *
  have HP := Lib.hid bp
  have HD := Lib.hid bd
  have HA := Lib.hid hl
  have c0 := bp.cell 0 _ rfl
  have c1 := bp.cell 1 _ rfl
  have c2 := bp.cell 2 _ rfl
  have c3 := bp.cell 3 _ rfl
  have c4 := bp.cell 4 _ rfl
  have c5 := bp.cell 5 _ rfl
  have e0 := bd.cell 0 _ rfl
  have e1 := bd.cell 1 _ rfl
  have e2 := bd.cell 2 _ rfl
  have l1 := bp.lt
  have l2 := bd.lt
  have l3 := hl.blk.lt
  clear bp bd hl hd hb
  go_enter Tryz.func93, Tryz.ntmps93
  go_wp2_with fail
  refine (HN.out _).mono ?_
  rintro e w2 ⟨vL, rfl, oL, hb2⟩
  obtain ⟨bL, cL, rfl, _, _⟩ := own_rd oL
  have HB2 := Lib.hid (below_then (show Below w.heap.size w (w.alloc (.cells #[.int .i64 p.b.b.x, .int .i64 p.b.b.y, .int .i64 p.b.b.z, .int .i64 p.b.s.x, .int .i64 p.b.s.y, .int .i64 1] 28)) by (repeat (first | (with_reducible exact Below.refl _ _) | (with_reducible assumption) | (with_reducible refine below_alloc ?_ _) | (with_reducible refine below_drewN ?_ _) | (with_reducible refine Below.drew ?_) | (with_reducible refine below_then ?_ (by with_reducible assumption)) | (with_reducible refine Below.setCell ?_ (by go_size) _)))) hb2)
  rw [World.size_alloc] at oL
  have A2 := Lib.hid (hl_keep HA.out HB2.out)
  have hsep := own_sep HA.out.row oL (by omega)
  have OL := Lib.hid (show w2.ownsRow (w.heap.size + 1) 3 1 (.slice bL L.length cL) L.length (ic' L) from oL)
  have HSEP := Lib.hid hsep
  clear oL hb2 hsep c0 c1 c2 c3 c4 c5 e0 e1 e2
  go_wp2_with fail
  go_loopw [25] (fun x wr => ∃ (i : Nat) (v' : Value), i ≤ L.length ∧ x = .int .i64 i ∧ Below Bl w wr ∧ AtL wr Bl v' (xs ++ cabsOf d p 2 (L.take i)) ∧ wr.ownsRow (w.heap.size + 1) 3 1 (.slice bL L.length cL) L.length (ic' L) ∧ (∀ g, Value.ownBlock (.slice bL L.length cL) = some g → v'.ownBlock ≠ some g) ∧ (∀ b, b < w.heap.size → b ≠ Bl → v.ownBlock ≠ some b → wr.heap[b]? = w.heap[b]?) ∧ (∀ g, v'.ownBlock = some g → v.ownBlock = some g ∨ w.heap.size ≤ g)) (fun x _ => L.length - (intOf x).toNat)
  case atStart => exact ⟨0, v, Nat.zero_le _, rfl, HB2.out.mono (by omega), by rw [List.take_zero, show cabsOf d p 2 [] = [] from rfl, List.append_nil]; exact A2.out, OL.out, HSEP.out, fun b hb _ _ => HB2.out.block b hb, fun g hg => .inl hg⟩
  case round =>
    obtain ⟨i, v', hi', rfl, hbel, hat, hrow, hsp, hk1, hk2⟩ := hrel
    have HAT := Lib.hid hat
    have HROW := Lib.hid hrow
    have HSP := Lib.hid hsp
    have HK1 := Lib.hid hk1
    have HK2 := Lib.hid hk2
    clear hk1 hk2
    have HBE := Lib.hid hbel
    by_cases hlt : i < L.length
    · obtain ⟨bx, cx, e, rd, _⟩ := own_rd hrow
      cases e
      obtain ⟨g0, off, e, hc⟩ := rd i _ (getElem?_map_int hlt)
      subst e
      obtain ⟨m, hm⟩ : ∃ m, m = L[i] := ⟨_, rfl⟩
      obtain ⟨R, hRR⟩ : ∃ R, R = d.runV ((2 : Nat) : Int) m (p.b.s.at 2) (p.tor 2) := ⟨_, rfl⟩
      have HRM := Lib.hid (fun W => show Calls Tryz.prog 94 #[.agg #[.int .i64 d.x, .int .i64 d.y, .int .i64 d.z], .int .i64 2, .int .i64 m, .int .i64 p.b.s.z, .bool p.t2] W (RLE W R 0) from by have := HR.out m W (by rw [hm]; exact List.getElem_mem hlt); rw [← hRR] at this; exact this)
      rw [← hm] at hc
      have htk := Lib.hid (show cabsOf d p 2 (L.take (i + 1)) = cabsOf d p 2 (L.take i) ++ R by rw [List.take_succ_eq_append_getElem hlt, cabsOf_snoc, ← hm, hRR])
      have hrl := d.runV_len ((2 : Nat) : Int) m (p.b.s.at 2) (p.tor 2)
      rw [← hRR] at hrl
      have hcl := cabsOf_len d p 2 (L.take i)
      rw [List.length_take] at hcl
      have hll := HLL.out
      have bp := HP.out.keep hbel h1
      have bd := HD.out.keep hbel h2
      have e0 := bd.cell 0 _ rfl
      have e1 := bd.cell 1 _ rfl
      have e2 := bd.cell 2 _ rfl
      have p1 := bp.cell 5 _ rfl
      have p2 := bp.cell 8 _ rfl
      have l1' := bp.lt
      have l2' := bd.lt
      have l3' := hat.blk.lt
      have zr := hbel.size
      have mixed : Tryz.prog.follows .mixedOrders = true := by kernel_rfl
      clear bp bd hat hrow hsp hbel rd hm hRR
      go_wp2_with fail
      go_region_with (go_at_call 94; (with_reducible refine (HRM.out _).mono ?_); rintro e w3 ⟨vr, rfl, or3, hb3⟩)
      all_goals
        obtain ⟨ar, cr, rfl, rr, _⟩ := own_rd or3
        have hb3' := below_then (show Below wr.heap.size wr _ by (repeat (first | (with_reducible exact Below.refl _ _) | (with_reducible assumption) | (with_reducible refine below_alloc ?_ _) | (with_reducible refine below_drewN ?_ _) | (with_reducible refine Below.drew ?_) | (with_reducible refine below_then ?_ (by with_reducible assumption)) | (with_reducible refine Below.setCell ?_ (by go_size) _)))) hb3
        have A3 := hl_keep HAT.out hb3'
        have R3 := own_keep HROW.out hb3'
        have hnil := own_none or3
        have HB3w := Lib.hid hb3'
        have hb3s := hb3'.size
        have HB3 := Lib.hid (hb3'.mono (show Bl ≤ wr.heap.size by omega))
        have a0 := A3.blk.cell 0 _ rfl
        have z3 := A3.blk.lt
        have HA3 := Lib.hid A3
        have HR3 := Lib.hid R3
        have HRR := Lib.hid rr
        have hxl : (xs ++ cabsOf d p 2 (L.take i)).length = xs.length + (cabsOf d p 2 (L.take i)).length := List.length_append
        clear or3 hb3 hb3' A3 R3 rr e0 e1 e2 p1 p2 hc
        go_wp2_with (at_builtin; refine wpList_addA _ rfl _ _ 83 rfl 3 i0 (.int .i64 0) 1 8 Tryz.underlying83 hi iz0 iz1 iz2 rfl (by decide) (by decide) (Bl + 1) ?q1 _ rfl _ _ HA3.out.row ar R.length cr (ic' R) rfl ?q2 hnil HRR.out (ic'_one R) ?q5 ?_)
        case q1 => omega
        case q2 => rw [ic'_len]; omega
        case q5 => omega
        intro v4 w4 o4 g4 at4
        obtain ⟨b4, c4, e4, _, _⟩ := own_rd o4
        have n4 := own_below HA3.out.row g4 (by omega)
        have B4 := own_grown HA3.out.blk g4 (own_apart HA3.out.row (by omega))
        have R4 := row_grown HR3.out g4 (fun g hg => HSP.out g hg)
        have S4 : ∀ g, Value.ownBlock (.slice (some ⟨g0, off, none⟩) L.length cL) = some g → v4.ownBlock ≠ some g := fun g hg he => by
          rcases at4 with e | e
          · exact HSP.out g hg (e ▸ he)
          · have := own_lt HR3.out hg
            rw [e] at he
            cases he
            omega
        have zz := HBE.out.size
        have zy := hb3s
        have K1 : ∀ b, b < w.heap.size → b ≠ Bl → v.ownBlock ≠ some b → (w4.setCell ⟨Bl, 0, none⟩ v4).heap[b]? = w.heap[b]? := fun b hb hne hv => by
          rw [Below.heap_setCell w4 ⟨Bl, 0, none⟩ v4 b hne, g4.block b (by omega) (fun e => by rcases HK2.out b e.symm with h | h; exact hv h; omega), HB3w.out.block b (by omega)]
          exact HK1.out b hb hne hv
        have K2 : ∀ g, v4.ownBlock = some g → v.ownBlock = some g ∨ w.heap.size ≤ g := fun g hg => by
          rcases at4 with e | e
          · exact HK2.out g (e ▸ hg)
          · rw [e] at hg
            cases hg
            right
            omega
        have HKA := Lib.hid K1
        have HKB := Lib.hid K2
        have hb4 := (HBE.out.trans HB3.out).trans (n4.mono (by omega))
        have b40 := B4.cell 0 _ rfl
        have f40 := B4.frozen 0
        have HB4 := Lib.hid B4
        have HR4 := Lib.hid R4
        have o5 := o4
        rw [show xs.length + (cabsOf d p 2 (L.take i)).length + R.length = (xs ++ (cabsOf d p 2 (L.take i) ++ R)).length by rw [List.length_append, List.length_append]; omega, show ic' (xs ++ cabsOf d p 2 (L.take i)) ++ ic' R = ic' (xs ++ (cabsOf d p 2 (L.take i) ++ R)) by simp [ic']] at o5
        rw [← htk.out] at o5
        have HO4 := Lib.hid o5
        have HS4 := Lib.hid S4
        have HE4 := Lib.hid hb4
        clear B4 R4 o4 g4 at4 n4 S4 hb4 a0 hxl K1 K2 o5
        subst e4
        go_wp2_with fail
        go_roundw
        case rel => exact ⟨i + 1, _, by omega, by go_num, HE4.out.setCell (p := ⟨Bl, 0, none⟩) (by simp) _, ⟨HB4.out.set 0 _, row_set _ HO4.out (by omega)⟩, row_set _ HR4.out (by omega), HS4.out, HKA.out, HKB.out⟩
        case measure => (simp [intOf] <;> omega)
    · obtain rfl : i = L.length := by omega
      rw [List.take_length] at hat
      have HAT2 := Lib.hid hat
      clear hat hrow hsp hbel
      go_wp2_with fail
      go_end0
      exact ⟨⟨_, rfl⟩, HBE.out, HK1.out, v', by rw [HQ.out]; exact HAT2.out, HK2.out⟩
end
end
end
end Go.Proofs.YtofoenlhbmammaaGreat
