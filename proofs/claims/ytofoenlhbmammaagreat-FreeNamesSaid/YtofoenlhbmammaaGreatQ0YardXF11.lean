/- YARDS: the code's twin, Put and New. -/
import Derived.Deep.RegionWith
import Derived.Deep.DeepCutAuto
import Derived.Deep.RegionHeld3
import Derived.Deep.OwnRows
import Derived.Test.YtofoenlhbmammaaGreatQ0InsF11
import Derived.Test.YtofoenlhbmammaaGreatQ0YardNF11
import Derived.Test.YtofoenlhbmammaaGreatQ0YardOF11
import Derived.Test.YtofoenlhbmammaaGreatQ12F11
set_option linter.unusedVariables false
set_option linter.unusedSimpArgs false
namespace Go.Proofs.YtofoenlhbmammaaGreat

section
section
open Go.RowKit Go.Shelf

/-- The values that lie in a list of calendars. -/
structure VR (w : World) (base : Option Addr) (vs : List Value) (ns : List (List Sl)) : Prop where
  rd : Rd w base vs
  len : vs.length = ns.length
  at' : ∀ (i : Nat) (c : List Sl), ns[i]? = some c → ∃ b cap, vs[i]? = some (Value.slice b c.length cap) ∧ CIn w b c ∧ (b = none → c.length = 0)
theorem CC.vr {w : World} {base : Option Addr} {ns : List (List Sl)} (h : CC w base ns) : ∃ vs, VR w base vs ns ∧ (∀ u ∈ vs, u.oneCell' = true) ∧ (base = none → ns.length = 0) := by
  obtain ⟨vs, h1, h2⟩ := h.rd.ex
  refine ⟨vs.take ns.length, ⟨fun i v hv => h1 i v ?_, ?_, fun i c hc => ?_⟩, ?_, ?_⟩
  · have hi := (List.getElem?_eq_some_iff.1 hv).1
    rw [List.length_take] at hi
    rw [List.getElem?_take_of_lt (by omega)] at hv
    exact hv
  · rw [List.length_take]
    have : ns.length ≤ vs.length := by
      rcases Nat.lt_or_ge vs.length ns.length with hlt | hge
      · obtain ⟨c, hc⟩ : ∃ c, ns[vs.length]? = some c := ⟨_, List.getElem?_eq_getElem hlt⟩
        obtain ⟨b, cap, h3, _⟩ := h2 _ c hc
        have := (List.getElem?_eq_some_iff.1 h3).1
        omega
      · exact hge
    omega
  · obtain ⟨b, cap, h3, h4, h5, h6⟩ := h2 i c hc
    have hi := (List.getElem?_eq_some_iff.1 hc).1
    have hs := h.small c (List.mem_of_getElem? hc)
    exact ⟨b, cap, by rw [List.getElem?_take_of_lt hi]; exact h3, ⟨h4, by omega⟩, fun e => by have := h6 e; omega⟩
  · intro u hu
    obtain ⟨i, hi, rfl⟩ := List.mem_iff_getElem.1 hu
    rw [List.length_take] at hi
    obtain ⟨c, hc⟩ : ∃ c, ns[i]? = some c := ⟨_, List.getElem?_eq_getElem (by omega)⟩
    obtain ⟨b, cap, h3, _⟩ := h2 i c hc
    rw [List.getElem_take, (List.getElem?_eq_some_iff.1 h3).2]
    rfl
  · intro e
    rcases Nat.eq_zero_or_pos ns.length with h0 | h0
    · exact h0
    · obtain ⟨c, hc⟩ : ∃ c, ns[0]? = some c := ⟨_, List.getElem?_eq_getElem h0⟩
      obtain ⟨g, o, _, _, e2, _⟩ := h.at hc
      rw [e] at e2
      cases e2
set_option maxRecDepth 100000 in set_option maxHeartbeats 4000000 in
theorem slices_Clone2 (ba : Option Addr) (ca : Nat) (vs : List Value) (w : World) (hr : Rd w ba vs) (h1 : ∀ u ∈ vs, u.oneCell' = true) (hna : ba = none → vs.length = 0) (hl : vs.length ≤ 1000) :
    Calls Tryz.prog 108 #[.slice ba vs.length ca] w (fun e w' => ∃ v, e = .returned v ∧ w'.ownsRow w.heap.size 65 1 v vs.length vs ∧ Below w.heap.size w w') := by
  obtain ⟨j0, hj, jz0, jz1, jz2⟩ := info_parts infoCal
  have q22 : ∀ (w : World) (a : Option Addr) (n c n' c' : Nat), (binOp .eql 24 (.slice a n c) (.slice none n' c')).run Tryz.prog w = .ok (.bool a.isNone) w := fun w a n c n' c' => Lib.run_eql_slice_nil w _ _ a n c n' c' Tryz.underlying24
  cases ba with
  | none =>
    obtain rfl : vs = [] := List.eq_nil_of_length_eq_zero (hna rfl)
    clear hna hr hl
    go_enter Tryz.func108, Tryz.ntmps108
    go_wp2_with fail
    go_returns
    exact ⟨_, rfl, ⟨rfl, .inl ⟨rfl, rfl⟩⟩, by (repeat (first | (with_reducible exact Below.refl _ _) | (with_reducible assumption) | (with_reducible refine below_alloc ?_ _) | (with_reducible refine below_drewN ?_ _) | (with_reducible refine Below.drew ?_) | (with_reducible refine below_then ?_ (by with_reducible assumption)) | (with_reducible refine Below.setCell ?_ (by go_size) _)))⟩
  | some a =>
    have HR := Lib.hid hr
    have H1 := Lib.hid h1
    clear hr hna h1
    go_enter Tryz.func108, Tryz.ntmps108
    go_wp2_with (at_builtin; refine wpList_append_own _ rfl _ _ 24 rfl w.heap.size 65 j0 (.slice none 0 0) 1 24 Tryz.underlying24 hj jz0 jz1 jz2 rfl (by decide) _ _ _ rfl (World.ownsRow_made w #[] 0 (Nat.le_refl _) (Nat.zero_le _) (by simp)) a vs.length ca vs rfl (by simp) ?qc2 H1.out ?qc4 ?qc5 ?qc6 ?_)
    case qc2 =>
      intro j u hj
      obtain ⟨b, off, e, h⟩ := HR.out j u hj
      cases e
      rw [Addr.add_lit]
      exact Lib.cell?_alloc_some _ h
    case qc4 => unfold maxLen; omega
    case qc5 => omega
    case qc6 => simp
    intro v' w1 hown hgrow hnil
    go_wp2_with fail
    go_returns
    exact ⟨_, rfl, by simpa using hown, ((Below.refl _ w).alloc (Nat.le_refl _) _).grown hgrow (by simp) (by intro k hk; simp [Value.ownBlock] at hk; omega)⟩
/-- A new list of calendars abides a store into another row of calendars. -/
theorem LO.apart {W W' : World} {B B' n : Nat} {u v : Value} {ns : List (List Sl)} {xs : List Value} (h : LO W B u ns) (o : W.ownsRow B' 65 1 v n xs) (hne : u.ownBlock = none ∨ u.ownBlock ≠ v.ownBlock) (hg : W.grownBy W' v.ownBlock) : LO W' B u ns := by
  obtain ⟨vs, h1, h2⟩ := h.ex
  exact ⟨vs, h1.kept hg hne, fun i c hc => by obtain ⟨y, h3, h4⟩ := h2 i c hc; exact ⟨y, h3, own_other h4 o (by decide) hg⟩⟩
/-- A row of the call's own whose first k calendars are new too; the others are those that came in. -/
structure MX (w W : World) (B : Nat) (v : Value) (ns : List (List Sl)) (k : Nat) : Prop where
  ex : ∃ vs, W.ownsRow B 65 1 v ns.length vs ∧ ∀ (i : Nat) (c : List Sl), ns[i]? = some c →
    (i < k → ∃ u, vs[i]? = some u ∧ W.ownsRow B 68 3 u c.length (slc c)) ∧ (k ≤ i → ∃ b cap, vs[i]? = some (Value.slice b c.length cap) ∧ CIn w b c ∧ (b = none → c.length = 0))
theorem MX.done {w W : World} {B : Nat} {v : Value} {ns : List (List Sl)} (h : MX w W B v ns ns.length) : LO W B v ns := by
  obtain ⟨vs, h1, h2⟩ := h.ex
  exact ⟨vs, h1, fun i c hc => (h2 i c hc).1 (List.getElem?_eq_some_iff.1 hc).1⟩
theorem MX.keep {w W W' : World} {B : Nat} {v : Value} {ns : List (List Sl)} {k : Nat} (h : MX w W B v ns k) (hb : Below W.heap.size W W') : MX w W' B v ns k := by
  obtain ⟨vs, h1, h2⟩ := h.ex
  exact ⟨vs, own_keep h1 hb, fun i c hc => ⟨fun hi => by obtain ⟨u, h3, h4⟩ := (h2 i c hc).1 hi; exact ⟨u, h3, own_keep h4 hb⟩, (h2 i c hc).2⟩⟩
/-- What lies at a number of the row, and what storing there makes of it. -/
theorem MX.step {w W : World} {B : Nat} {v : Value} {ns : List (List Sl)} {k : Nat} {c : List Sl} (h : MX w W B v ns k) (hc : ns[k]? = some c) :
    ∃ g cap b cp, v = .slice (some ⟨g, 0, none⟩) ns.length cap ∧ B ≤ g ∧ g < W.heap.size ∧ W.cell? ⟨g, k, none⟩ = some (.slice b c.length cp) ∧ W.frozen? ⟨g, k, none⟩ = false ∧ CIn w b c ∧ (b = none → c.length = 0) ∧
      ∀ (W' : World) (u : Value), Below W.heap.size W W' → W'.ownsRow B 68 3 u c.length (slc c) → MX w (W'.setCell ⟨g, k, none⟩ u) B v ns (k + 1) ∧ W'.frozen? ⟨g, k, none⟩ = false ∧ W'.cell? ⟨g, k, none⟩ = some (.slice b c.length cp) ∧
        ∀ (B2 : Nat) (u2 : Value) (ns2 : List (List Sl)), LO W' B2 u2 ns2 → (u2.ownBlock = none ∨ u2.ownBlock ≠ some g) → LO (W'.setCell ⟨g, k, none⟩ u) B2 u2 ns2 := by
  obtain ⟨vs, h1, h2⟩ := h.ex
  obtain ⟨b, cp, h3, h4, h5⟩ := (h2 k c hc).2 (Nat.le_refl _)
  have hk := (List.getElem?_eq_some_iff.1 hc).1
  rcases h1.2 with ⟨_, e⟩ | ⟨g, cap, cur, rfl, hbg, hg, _⟩
  · omega
  have hlt := (h1.lt g rfl).2
  have hc2 : W.cell? ⟨g, k, none⟩ = some (.slice b c.length cp) := by rw [h1.cellAt k (by omega)]; exact h3
  refine ⟨g, cap, b, cp, rfl, hbg, hlt, hc2, h1.frozenAt k, h4, h5, fun W' u hb hu => ?_⟩
  have h1' := own_keep h1 hb
  obtain ⟨s1, s2⟩ := h1'.stored k u
  refine ⟨⟨_, s1, fun i x hx => ⟨fun hi => ?_, fun hi => ?_⟩⟩, h1'.frozenAt k, (hb.cell (p := ⟨g, k, none⟩) hlt).trans hc2, fun B2 u2 ns2 hl2 hne => hl2.apart h1' hne s2⟩
  · rcases Nat.lt_or_ge i k with hik | hik
    · obtain ⟨y, h6, h7⟩ := (h2 i x hx).1 hik
      exact ⟨y, by rw [List.getElem?_set_ne (by omega)]; exact h6, own_other (own_keep h7 hb) h1' (by decide) s2⟩
    · obtain rfl : i = k := by omega
      rw [hc] at hx
      cases hx
      have hvl : i < vs.length := (List.getElem?_eq_some_iff.1 h3).1
      exact ⟨u, by rw [List.getElem?_set_self hvl], own_other hu h1' (by decide) s2⟩
  · obtain ⟨b', cp', h6, h7⟩ := (h2 i x hx).2 (by omega)
    exact ⟨b', cp', by rw [List.getElem?_set_ne (by omega)]; exact h6, h7⟩
end

section
open Go.RowKit Go.Shelf

/-- What lies at a number of a new list, and what storing there makes of it. -/
theorem LO.step {W : World} {B : Nat} {v : Value} {ns : List (List Sl)} {k : Nat} {c : List Sl} (h : LO W B v ns) (hc : ns[k]? = some c) (hl : c.length ≤ 1000000) :
    ∃ g cap b cp, v = .slice (some ⟨g, 0, none⟩) ns.length cap ∧ B ≤ g ∧ g < W.heap.size ∧ W.cell? ⟨g, k, none⟩ = some (.slice b c.length cp) ∧ W.frozen? ⟨g, k, none⟩ = false ∧ CIn W b c ∧ c.length ≤ cp ∧ (b = none → cp = 0) ∧
      ∀ (W' : World) (u : Value) (c' : List Sl), Below W.heap.size W W' → W'.ownsRow B 68 3 u c'.length (slc c') → LO (W'.setCell ⟨g, k, none⟩ u) B v (ns.set k c') ∧ W'.frozen? ⟨g, k, none⟩ = false ∧ W'.cell? ⟨g, k, none⟩ = some (.slice b c.length cp) ∧
        ∀ (B2 : Nat) (u2 : Value) (ns2 : List (List Sl)), LO W' B2 u2 ns2 → (u2.ownBlock = none ∨ u2.ownBlock ≠ some g) → LO (W'.setCell ⟨g, k, none⟩ u) B2 u2 ns2 := by
  obtain ⟨vs, h1, h2⟩ := h.ex
  obtain ⟨y, h3, h4⟩ := h2 k c hc
  obtain ⟨b, cp, rfl, h5, h6, h7⟩ := (cal_of_own h4 hl).ex
  have hk := (List.getElem?_eq_some_iff.1 hc).1
  rcases h1.2 with ⟨_, e⟩ | ⟨g, cap, cur, rfl, hbg, hg, _⟩
  · omega
  have hlt := (h1.lt g rfl).2
  have hc2 : W.cell? ⟨g, k, none⟩ = some (.slice b c.length cp) := by rw [h1.cellAt k (by omega)]; exact h3
  refine ⟨g, cap, b, cp, rfl, hbg, hlt, hc2, h1.frozenAt k, h5, h6, h7, fun W' u c' hb hu => ?_⟩
  have h1' := own_keep h1 hb
  obtain ⟨s1, s2⟩ := h1'.stored k u
  refine ⟨⟨_, by rw [List.length_set]; exact s1, fun i x hx => ?_⟩, h1'.frozenAt k, (hb.cell (p := ⟨g, k, none⟩) hlt).trans hc2, fun B2 u2 ns2 hl2 hne => hl2.apart h1' hne s2⟩
  rcases Nat.lt_trichotomy i k with hik | hik | hik
  · rw [List.getElem?_set_ne (by omega)] at hx
    obtain ⟨y, h6, h7⟩ := h2 i x hx
    exact ⟨y, by rw [List.getElem?_set_ne (by omega)]; exact h6, own_other (own_keep h7 hb) h1' (by decide) s2⟩
  · subst hik
    rw [List.getElem?_set_self hk] at hx
    cases hx
    have hvl : i < vs.length := (List.getElem?_eq_some_iff.1 h3).1
    exact ⟨u, by rw [List.getElem?_set_self hvl], own_other hu h1' (by decide) s2⟩
  · rw [List.getElem?_set_ne (by omega)] at hx
    obtain ⟨y, h6, h7⟩ := h2 i x hx
    exact ⟨y, by rw [List.getElem?_set_ne (by omega)]; exact h6, own_other (own_keep h7 hb) h1' (by decide) s2⟩
theorem MX.low {w W : World} {B : Nat} {v : Value} {ns : List (List Sl)} {n : Nat} (h : MX w W B v ns n) (b k : Nat) (x : Value) (hb : b < B) : MX w (W.setCell ⟨b, k, none⟩ x) B v ns n := by
  obtain ⟨vs, h1, h2⟩ := h.ex
  exact ⟨vs, own_set h1 b k x hb, fun i c hc => ⟨fun hi => by obtain ⟨u, h3, h4⟩ := (h2 i c hc).1 hi; exact ⟨u, h3, own_set h4 b k x hb⟩, (h2 i c hc).2⟩⟩
theorem MX.start {w W : World} {base : Option Addr} {vs : List Value} {v : Value} {ns : List (List Sl)} {B : Nat} (h : VR w base vs ns) (ho : W.ownsRow B 65 1 v ns.length vs) : MX w W B v ns 0 :=
  ⟨vs, ho, fun i c hc => ⟨fun hi => absurd hi (Nat.not_lt_zero _), fun _ => h.at' i c hc⟩⟩
theorem sz_set (W : World) (a : Addr) (v : Value) : (W.setCell a v).heap.size = W.heap.size := by simp
theorem fresh_ne {W W' : World} {B n n' : Nat} {e e' : TypeId} {s s' : Nat} {u v : Value} {xs ys : List Value} (h : W.ownsRow B e s u n xs) (h' : W'.ownsRow W.heap.size e' s' v n' ys) : u.ownBlock = none ∨ u.ownBlock ≠ v.ownBlock := by
  cases hu : u.ownBlock with
  | none => exact .inl rfl
  | some b =>
    refine .inr fun e => ?_
    have h1 := (h.lt b hu).2
    have h2 := (h'.lt b e.symm).1
    omega
/-- New calendars of a machine, the midplanes' list apart from the cables'. -/
def RY2 (w : World) (y : Yd) : Ending → World → Prop := fun e w' => ∃ u v, e = .returned (.agg #[.int .i64 y.d.x, .int .i64 y.d.y, .int .i64 y.d.z, u, v]) ∧ LO w' w.heap.size u y.ns ∧ LO w' w.heap.size v y.ls ∧ (u.ownBlock = none ∨ u.ownBlock ≠ v.ownBlock) ∧ Below w.heap.size w w'
set_option maxRecDepth 100000 in set_option maxHeartbeats 4000000 in
theorem cals_twin (d : V3) (bn bl : Option Addr) (cn cl : Nat) (ns ls : List (List Sl)) (w : World) (hn : CC w bn ns) (hl : CC w bl ls) :
    Calls Tryz.prog 81 #[.agg #[.int .i64 d.x, .int .i64 d.y, .int .i64 d.z, (.slice bn ns.length cn), (.slice bl ls.length cl)]] w (RY2 w ⟨d, ns, ls⟩) := by
  obtain ⟨vn, hvn, hn1, hn0⟩ := hn.vr
  obtain ⟨vl, hvl, hl1, hl0⟩ := hl.vr
  obtain ⟨W0, hW0⟩ : ∃ W0, W0 = ((w.alloc (.cells #[.int .i64 d.x, .int .i64 d.y, .int .i64 d.z, (.slice bn ns.length cn), (.slice bl ls.length cl)] 26)).alloc (.cells #[.int .i64 0, .int .i64 0, .int .i64 0, .slice none 0 0, .slice none 0 0] 26)).alloc (.cells #[.pointer (some ⟨w.heap.size, 3, none⟩), .pointer (some ⟨w.heap.size, 4, none⟩)] 158) := ⟨_, rfl⟩
  have hb0 : Below w.heap.size w W0 := by rw [hW0]; (repeat (first | (with_reducible exact Below.refl _ _) | (with_reducible assumption) | (with_reducible refine below_alloc ?_ _) | (with_reducible refine below_drewN ?_ _) | (with_reducible refine Below.drew ?_) | (with_reducible refine below_then ?_ (by with_reducible assumption)) | (with_reducible refine Below.setCell ?_ (by go_size) _)))
  have e1 : w.heap.size + 1 = (w.alloc (.cells #[.int .i64 d.x, .int .i64 d.y, .int .i64 d.z, (.slice bn ns.length cn), (.slice bl ls.length cl)] 26)).heap.size := by simp
  have e2 : w.heap.size + 2 = ((w.alloc (.cells #[.int .i64 d.x, .int .i64 d.y, .int .i64 d.z, (.slice bn ns.length cn), (.slice bl ls.length cl)] 26)).alloc (.cells #[.int .i64 0, .int .i64 0, .int .i64 0, .slice none 0 0, .slice none 0 0] 26)).heap.size := by simp
  have e3 : w.heap.size + 3 = W0.heap.size := by rw [hW0]; simp
  have YB := Lib.hid (show Blk W0 w.heap.size 26 #[.int .i64 d.x, .int .i64 d.y, .int .i64 d.z, (.slice bn ns.length cn), (.slice bl ls.length cl)] by rw [hW0]; exact ((Blk.new ..).alloc _).alloc _)
  have RB0 := Lib.hid (show Blk W0 (w.heap.size + 1) 26 #[.int .i64 0, .int .i64 0, .int .i64 0, .slice none 0 0, .slice none 0 0] by rw [hW0, e1]; exact (Blk.new ..).alloc _)
  have LB := Lib.hid (show Blk W0 (w.heap.size + 2) 158 #[.pointer (some ⟨w.heap.size, 3, none⟩), .pointer (some ⟨w.heap.size, 4, none⟩)] by rw [hW0, e2]; exact Blk.new ..)
  have E1 := Lib.hid (fun W (h : Below w.heap.size w W) => by have := slices_Clone2 bn cn vn W (hvn.rd.keep h) hn1 (fun e => by rw [hvn.len]; exact hn0 e) (by rw [hvn.len]; exact hn.many); rw [hvn.len] at this; exact this)
  have E2 := Lib.hid (fun W (h : Below w.heap.size w W) => by have := slices_Clone2 bl cl vl W (hvl.rd.keep h) hl1 (fun e => by rw [hvl.len]; exact hl0 e) (by rw [hvl.len]; exact hl.many); rw [hvl.len] at this; exact this)
  have hn9 := hn.many
  have hl9 := hl.many
  have Ssm := Lib.hid (And.intro hn.small hl.small)
  have HVn := Lib.hid hvn
  have HVl := Lib.hid hvl
  have HW := Lib.hid hW0
  have HB := Lib.hid hb0
  have S0 := Lib.hid e3
  clear hn hl hvn hvl hn1 hl1 hn0 hl0 hb0 hW0 e1 e2 e3
  go_enter Tryz.func81, Tryz.ntmps81
  go_wp2_with fail
  rw [← HW.out]
  have l0 : W0.cell? ⟨w.heap.size + 1 + 1, 0, none⟩ = some (.pointer (some ⟨w.heap.size, 3, none⟩)) := LB.out.cell 0 _ rfl
  have l1 : W0.cell? ⟨w.heap.size + 1 + 1, 1, none⟩ = some (.pointer (some ⟨w.heap.size, 4, none⟩)) := LB.out.cell 1 _ rfl
  have y3 : W0.cell? ⟨w.heap.size, 3, none⟩ = some (.slice bn ns.length cn) := YB.out.cell 3 _ rfl
  refine wp_loop_rounds 3 ?_
  go_wp2_with (rw [rounds_succ])
  refine (E1.out _ HB.out).mono ?_
  rintro e w1 ⟨u, rfl, ou, hb1⟩
  obtain ⟨ub, uc, rfl, _⟩ := own_rd ou
  have YB := Lib.hid (YB.out.below hb1)
  have RB0 := Lib.hid (RB0.out.below hb1)
  have LB := Lib.hid (LB.out.below hb1)
  have HB := Lib.hid (below_then HB.out hb1)
  have hz1 := hb1.size
  have HO := Lib.hid (own_mono ou (show w.heap.size + 3 ≤ W0.heap.size by have := S0.out; omega))
  have hz := HB.out.size
  have hz3 : w.heap.size + 3 ≤ w1.heap.size := by have := S0.out; omega
  clear ou hb1 hz1 y3 l0 l1 E1 HW S0
  have y3 := YB.out.cell 3 _ rfl
  have f3 := YB.out.frozen 3
  have l1 : w1.cell? ⟨w.heap.size + 1 + 1, 1, none⟩ = some (.pointer (some ⟨w.heap.size, 4, none⟩)) := LB.out.cell 1 _ rfl
  obtain ⟨w2, hw2⟩ : ∃ w2, w2 = w1.setCell ⟨w.heap.size, 3, none⟩ (.slice ub ns.length uc) := ⟨_, rfl⟩
  go_wp2_with fail
  rw [← hw2]
  have YB2 := Lib.hid (show Blk w2 w.heap.size 26 #[.int .i64 d.x, .int .i64 d.y, .int .i64 d.z, (.slice ub ns.length uc), (.slice bl ls.length cl)] by rw [hw2]; exact YB.out.set 3 _)
  have RB2 := Lib.hid (show Blk w2 (w.heap.size + 1) 26 #[.int .i64 0, .int .i64 0, .int .i64 0, .slice none 0 0, .slice none 0 0] by rw [hw2]; exact RB0.out.other _ _ _ (by omega))
  have LB2 := Lib.hid (show Blk w2 (w.heap.size + 2) 158 #[.pointer (some ⟨w.heap.size, 3, none⟩), .pointer (some ⟨w.heap.size, 4, none⟩)] by rw [hw2]; exact LB.out.other _ _ _ (by omega))
  have MX2 := Lib.hid (show MX w w2 (w.heap.size + 3) (.slice ub ns.length uc) ns 0 by rw [hw2]; exact (MX.start HVn.out HO.out).low _ _ _ (by omega))
  have HB2 := Lib.hid (show Below w.heap.size w w2 by rw [hw2]; exact HB.out.setCell (Nat.le_refl _) _)
  have hz2 : w.heap.size + 3 ≤ w2.heap.size := by rw [hw2]; simpa using hz3
  clear hw2 YB RB0 LB HO HB hz hz3 y3 f3 l1
  go_loopw [24] (fun i wr => ∃ k : Nat, k ≤ ns.length ∧ i = .int .i64 k ∧ Blk wr w.heap.size 26 #[.int .i64 d.x, .int .i64 d.y, .int .i64 d.z, (.slice ub ns.length uc), (.slice bl ls.length cl)] ∧ Blk wr (w.heap.size + 1) 26 #[.int .i64 0, .int .i64 0, .int .i64 0, .slice none 0 0, .slice none 0 0] ∧ Blk wr (w.heap.size + 2) 158 #[.pointer (some ⟨w.heap.size, 3, none⟩), .pointer (some ⟨w.heap.size, 4, none⟩)] ∧ MX w wr (w.heap.size + 3) (.slice ub ns.length uc) ns k ∧ Below w.heap.size w wr ∧ w.heap.size + 3 ≤ wr.heap.size) (fun i _ => ns.length - (intOf i).toNat)
  case atStart => exact ⟨0, Nat.zero_le _, rfl, YB2.out, RB2.out, LB2.out, MX2.out, HB2.out, hz2⟩
  case round =>
    clear YB2 RB2 LB2 MX2 HB2 hz2
    obtain ⟨k, hk, rfl, hY, hR, hL, hM, hbel, hz⟩ := hrel
    have YB := Lib.hid hY
    have RB := Lib.hid hR
    have LB := Lib.hid hL
    have HM := Lib.hid hM
    have HB := Lib.hid hbel
    have y3 := hY.cell 3 _ rfl
    have hYl := hY.lt
    clear hY hR hL hM hbel
    by_cases hlt : k < ns.length
    · obtain ⟨c, hc⟩ : ∃ c, ns[k]? = some c := ⟨_, List.getElem?_eq_getElem hlt⟩
      have hcl := Ssm.out.1 c (List.mem_of_getElem? hc)
      obtain ⟨g, cap, b, cp, e, hgB, hgl, hce, hfr, hci, hcn, hst⟩ := HM.out.step hc
      cases e
      have HSt := Lib.hid hst
      have CL := Lib.hid (fun W (h : Below wr.heap.size wr W) => slices_Clone b cp c W (hci.keep (below_then HB.out h)).rd hcn (by omega))
      clear hst hci hcn hc
      go_upto_region 8 with fail
      have mixed : Tryz.prog.follows .mixedOrders = true := by kernel_rfl
      go_region_with
        (first | ((with_reducible refine (CL.out _ (by (repeat (first | (with_reducible exact Below.refl _ _) | (with_reducible assumption) | (with_reducible refine below_alloc ?_ _) | (with_reducible refine below_drewN ?_ _) | (with_reducible refine Below.drew ?_) | (with_reducible refine below_then ?_ (by with_reducible assumption)) | (with_reducible refine Below.setCell ?_ (by go_size) _))))).mono ?_); rintro e wa ⟨va, rfl, hoa, hba⟩; obtain ⟨xa, ya, rfl, _⟩ := own_rd hoa; have HBa := below_then (show Below wr.heap.size wr _ by (repeat (first | (with_reducible exact Below.refl _ _) | (with_reducible assumption) | (with_reducible refine below_alloc ?_ _) | (with_reducible refine below_drewN ?_ _) | (with_reducible refine Below.drew ?_) | (with_reducible refine below_then ?_ (by with_reducible assumption)) | (with_reducible refine Below.setCell ?_ (by go_size) _)))) hba; have p3 := (YB.out.below HBa).cell 3 _ rfl; obtain ⟨hMa, hfa, hca, _⟩ := HSt.out wa _ HBa (own_mono hoa hz)))
      all_goals
        go_wp2_with fail
        go_roundw
        case rel => exact ⟨k + 1, by omega, by go_num, (YB.out.below HBa).other g k _ (by omega), (RB.out.below HBa).other g k _ (by omega), (LB.out.below HBa).other g k _ (by omega), hMa, (below_then HB.out HBa).setCell (by show w.heap.size ≤ g; omega) _, by rw [sz_set]; have := HBa.size; omega⟩
        case measure => (simp [intOf] <;> omega)
    · obtain rfl : k = ns.length := by omega
      have HU := Lib.hid HM.out.done
      have l1 : wr.cell? ⟨w.heap.size + 1 + 1, 1, none⟩ = some (.pointer (some ⟨w.heap.size, 4, none⟩)) := LB.out.cell 1 _ rfl
      have y4 := YB.out.cell 4 _ rfl
      have f4 := YB.out.frozen 4
      have hlL := LB.out.lt
      go_wp2_with (rw [rounds_succ])
      refine (E2.out _ HB.out).mono ?_
      rintro e w3 ⟨v, rfl, ov, hb3⟩
      have HNE := Lib.hid (fresh_ne (HU.out.ex.choose_spec.1) ov)
      obtain ⟨vb, vc, rfl, _⟩ := own_rd ov
      have YB := Lib.hid (YB.out.below hb3)
      have RB := Lib.hid (RB.out.below hb3)
      have LB := Lib.hid (LB.out.below hb3)
      have HU := Lib.hid (HU.out.keep hb3)
      have HB := Lib.hid (below_then HB.out hb3)
      have HO := Lib.hid (own_mono ov hz)
      have hz := Nat.le_trans hz hb3.size
      have hYl := YB.out.lt
      clear ov hb3 y3 y4 f4 l1 hlL HM
      have y4 := YB.out.cell 4 _ rfl
      have f4 := YB.out.frozen 4
      obtain ⟨w4, hw4⟩ : ∃ w4, w4 = w3.setCell ⟨w.heap.size, 4, none⟩ (.slice vb ls.length vc) := ⟨_, rfl⟩
      go_wp2_with fail
      rw [← hw4]
      have YB2 := Lib.hid (show Blk w4 w.heap.size 26 #[.int .i64 d.x, .int .i64 d.y, .int .i64 d.z, (.slice ub ns.length uc), (.slice vb ls.length vc)] by rw [hw4]; exact YB.out.set 4 _)
      have RB2 := Lib.hid (show Blk w4 (w.heap.size + 1) 26 #[.int .i64 0, .int .i64 0, .int .i64 0, .slice none 0 0, .slice none 0 0] by rw [hw4]; exact RB.out.other _ _ _ (by omega))
      have MX2 := Lib.hid (show MX w w4 (w.heap.size + 3) (.slice vb ls.length vc) ls 0 by rw [hw4]; exact (MX.start HVl.out HO.out).low _ _ _ (by omega))
      have HU2 := Lib.hid (show LO w4 (w.heap.size + 3) (.slice ub ns.length uc) ns by rw [hw4]; exact HU.out.set _ _ _ (by omega))
      have HB2 := Lib.hid (show Below w.heap.size w w4 by rw [hw4]; exact HB.out.setCell (Nat.le_refl _) _)
      have hz2 : w.heap.size + 3 ≤ w4.heap.size := by rw [hw4, sz_set]; exact hz
      clear hw4 YB RB LB HO HU HB hz y4 f4 hYl
      go_loopw [24] (fun i wr => ∃ k : Nat, k ≤ ls.length ∧ i = .int .i64 k ∧ Blk wr w.heap.size 26 #[.int .i64 d.x, .int .i64 d.y, .int .i64 d.z, (.slice ub ns.length uc), (.slice vb ls.length vc)] ∧ Blk wr (w.heap.size + 1) 26 #[.int .i64 0, .int .i64 0, .int .i64 0, .slice none 0 0, .slice none 0 0] ∧ LO wr (w.heap.size + 3) (.slice ub ns.length uc) ns ∧ MX w wr (w.heap.size + 3) (.slice vb ls.length vc) ls k ∧ Below w.heap.size w wr ∧ w.heap.size + 3 ≤ wr.heap.size) (fun i _ => ls.length - (intOf i).toNat)
      case atStart => exact ⟨0, Nat.zero_le _, rfl, YB2.out, RB2.out, HU2.out, MX2.out, HB2.out, hz2⟩
      case round =>
        clear YB2 RB2 HU2 MX2 HB2 hz2
        obtain ⟨k, hk, rfl, hY, hR, hU, hM, hbel, hz⟩ := hrel
        have YB := Lib.hid hY
        have RB := Lib.hid hR
        have HU := Lib.hid hU
        have HM := Lib.hid hM
        have HB := Lib.hid hbel
        have y4 := hY.cell 4 _ rfl
        have hYl := hY.lt
        clear hY hR hU hM hbel
        by_cases hlt : k < ls.length
        · obtain ⟨c, hc⟩ : ∃ c, ls[k]? = some c := ⟨_, List.getElem?_eq_getElem hlt⟩
          have hcl := Ssm.out.2 c (List.mem_of_getElem? hc)
          obtain ⟨g, cap, b, cp, e, hgB, hgl, hce, hfr, hci, hcn, hst⟩ := HM.out.step hc
          cases e
          have HSt := Lib.hid hst
          have CL := Lib.hid (fun W (h : Below wr.heap.size wr W) => slices_Clone b cp c W (hci.keep (below_then HB.out h)).rd hcn (by omega))
          clear hst hci hcn hc
          go_upto_region 8 with fail
          have mixed : Tryz.prog.follows .mixedOrders = true := by kernel_rfl
          go_region_with
            (first | ((with_reducible refine (CL.out _ (by (repeat (first | (with_reducible exact Below.refl _ _) | (with_reducible assumption) | (with_reducible refine below_alloc ?_ _) | (with_reducible refine below_drewN ?_ _) | (with_reducible refine Below.drew ?_) | (with_reducible refine below_then ?_ (by with_reducible assumption)) | (with_reducible refine Below.setCell ?_ (by go_size) _))))).mono ?_); rintro e wa ⟨va, rfl, hoa, hba⟩; obtain ⟨xa, ya, rfl, _⟩ := own_rd hoa; have HBa := below_then (show Below wr.heap.size wr _ by (repeat (first | (with_reducible exact Below.refl _ _) | (with_reducible assumption) | (with_reducible refine below_alloc ?_ _) | (with_reducible refine below_drewN ?_ _) | (with_reducible refine Below.drew ?_) | (with_reducible refine below_then ?_ (by with_reducible assumption)) | (with_reducible refine Below.setCell ?_ (by go_size) _)))) hba; have p4 := (YB.out.below HBa).cell 4 _ rfl; obtain ⟨hMa, hfa, hca, hUa⟩ := HSt.out wa _ HBa (own_mono hoa hz)))
          all_goals
            go_wp2_with fail
            go_roundw
            case rel => exact ⟨k + 1, by omega, by go_num, (YB.out.below HBa).other g k _ (by omega), (RB.out.below HBa).other g k _ (by omega), hUa _ _ _ (HU.out.keep HBa) HNE.out, hMa, (below_then HB.out HBa).setCell (by show w.heap.size ≤ g; omega) _, by rw [sz_set]; have := HBa.size; omega⟩
            case measure => (simp [intOf] <;> omega)
        · obtain rfl : k = ls.length := by omega
          have HV := Lib.hid HM.out.done
          have y0 := YB.out.cell 0 _ rfl
          have y1 := YB.out.cell 1 _ rfl
          have y2 := YB.out.cell 2 _ rfl
          have y3 := YB.out.cell 3 _ rfl
          have q0 := RB.out.cell 0 _ rfl
          have q1 := RB.out.cell 1 _ rfl
          have q2 := RB.out.cell 2 _ rfl
          have q3 := RB.out.cell 3 _ rfl
          have q4 := RB.out.cell 4 _ rfl
          have g0 := RB.out.frozen 0
          have g1 := RB.out.frozen 1
          have g2 := RB.out.frozen 2
          have g3 := RB.out.frozen 3
          have g4 := RB.out.frozen 4
          have hRl := RB.out.lt
          go_wp2_with (rw [rounds_succ])
          (have R0 := (RB.out).set 0 (.int .i64 d.x); have R1 := R0.set 1 (.int .i64 d.y); have R2 := R1.set 2 (.int .i64 d.z); have R3 := R2.set 3 (.slice ub ns.length uc); have R4 := R3.set 4 (.slice vb ls.length vc); have r0 := R0.cell 0 (.int .i64 d.x) rfl; have r1 := R1.cell 1 (.int .i64 d.y) rfl; have r2 := R2.cell 2 (.int .i64 d.z) rfl; have r3 := R3.cell 3 (.slice ub ns.length uc) rfl; have r4 := R4.cell 4 (.slice vb ls.length vc) rfl; clear R0 R1 R2 R3 R4; refine bodyPost_ret (by simp [results, Tryz.results81, go_sem, r0, r1, r2, r3, r4]; try rfl) rfl ?_)
          exact ⟨_, _, rfl, LO.five HU.out (by omega) (by omega), LO.five HV.out (by omega) (by omega), HNE.out, by have hbF := HB.out; (repeat (first | (with_reducible exact Below.refl _ _) | (with_reducible assumption) | (with_reducible refine below_alloc ?_ _) | (with_reducible refine below_drewN ?_ _) | (with_reducible refine Below.drew ?_) | (with_reducible refine below_then ?_ (by with_reducible assumption)) | (with_reducible refine Below.setCell ?_ (by go_size) _)))⟩
end

section
open Go.RowKit Go.Shelf

/-- What Put's closure finds: two sets, how many midplanes, the slot, what has been told so far. -/
structure PAt (w : World) (Mb Nb Kb Sb Tb Qb : Nat) (tM tN tK tS tT tQ : TypeId) (bm bk : Option Addr) (cm ck : Nat) (ms ks : List Nat) (n : Int) (s : Sl) (tk mn : Bool) : Prop where
  m : Blk w Mb tM #[.slice bm ms.length cm]
  n : Blk w Nb tN #[.int .i64 n]
  k : Blk w Kb tK #[.slice bk ks.length ck]
  s : Blk w Sb tS #[.int .i64 s.f, .int .i64 s.t, .int .i64 s.o]
  t : Blk w Tb tT #[.bool tk]
  q : Blk w Qb tQ #[.bool mn]
  im : SetIn w bm ms
  ik : SetIn w bk ks
theorem PAt.keep {w W : World} {Mb Nb Kb Sb Tb Qb : Nat} {tM tN tK tS tT tQ : TypeId} {bm bk : Option Addr} {cm ck : Nat} {ms ks : List Nat} {n : Int} {s : Sl} {tk mn : Bool} (h : PAt w Mb Nb Kb Sb Tb Qb tM tN tK tS tT tQ bm bk cm ck ms ks n s tk mn) (hb : Below w.heap.size w W) : PAt W Mb Nb Kb Sb Tb Qb tM tN tK tS tT tQ bm bk cm ck ms ks n s tk mn :=
  ⟨h.m.below hb, h.n.below hb, h.k.below hb, h.s.below hb, h.t.below hb, h.q.below hb, h.im.keep hb, h.ik.keep hb⟩
/-- Which set, of how many. -/
def inOf (kk : Bool) (ms ks : List Nat) : List Nat := if kk then ks else ms
def boundOf (kk : Bool) (n : Int) : Int := if kk then 3 * n else n
def tkE (tk : Bool) (e : Int) : Bool := tk || e == 80
def mnE (mn : Bool) (e : Int) : Bool := mn || e == 4
set_option maxRecDepth 100000 in set_option maxHeartbeats 4000000 in
theorem cals_put1_no (kk : Bool) (i G off Mb Nb Kb Sb Tb Qb : Nat) (tM tN tK tS tT tQ : TypeId) (bm bk : Option Addr) (cm ck : Nat) (ms ks : List Nat) (n : Int) (s : Sl) (tk mn : Bool) (w : World)
    (hp : PAt w Mb Nb Kb Sb Tb Qb tM tN tK tS tT tQ bm bk cm ck ms ks n s tk mn) (n1 : 1 ≤ n) (n2 : n ≤ 4096) (hno : hasV (boundOf kk n) (inOf kk ms ks) (i : Int) = false) :
    Calls Tryz.prog 83 #[.bool kk, .int .i64 (i : Int), .pointer (some ⟨G, off, none⟩), .pointer (some ⟨Mb, 0, none⟩), .pointer (some ⟨Nb, 0, none⟩), .pointer (some ⟨Kb, 0, none⟩), .pointer (some ⟨Sb, 0, none⟩), .pointer (some ⟨Tb, 0, none⟩), .pointer (some ⟨Qb, 0, none⟩)] w (fun e W' => e = .returned (.tuple #[]) ∧ Below w.heap.size w W') := by
  have m0 := hp.m.cell 0 _ rfl
  have n0 := hp.n.cell 0 _ rfl
  have k0 := hp.k.cell 0 _ rfl
  cases kk with
  | false =>
    have HH := Lib.hid (fun W (h : Below w.heap.size w W) => by have := set_Has n bm cm ms (i : Int) W (hp.im.keep h); rw [show hasV n ms (i : Int) = false from hno] at this; exact this)
    generalize sChk n ms = x at *
    clear hp hno
    go_enter Tryz.func83, Tryz.ntmps83
    go_wp2_with (first | ((with_reducible refine (HH.out _ (by (repeat (first | (with_reducible exact Below.refl _ _) | (with_reducible assumption) | (with_reducible refine below_alloc ?_ _) | (with_reducible refine below_drewN ?_ _) | (with_reducible refine Below.drew ?_) | (with_reducible refine below_then ?_ (by with_reducible assumption)) | (with_reducible refine Below.setCell ?_ (by go_size) _))))).mono ?_); rintro e w1 ⟨rfl, hb1⟩; (obtain ⟨hc1, hf1⟩ := bcell hb1; have hz1 := hb1.size; (try simp at hz1))) | (refine wp_region_quiet_lit (by kernel_rfl) (by kernel_rfl) ?_; (repeat (any_goals (first | go_big_quiet_step (fail) | quiet_step (fail) | (refine wpQuiet_step (fun K hK => ?_); go_simp; split <;> (refine hK _ ?_; clear hK K))))); all_goals (refine wpQuiet_nil ?_; intro _ hw'; obtain ⟨nq, hw''⟩ := hw'; subst hw'')))
    go_returns
    exact ⟨rfl, by (repeat (first | (with_reducible exact Below.refl _ _) | (with_reducible assumption) | (with_reducible refine below_alloc ?_ _) | (with_reducible refine below_drewN ?_ _) | (with_reducible refine Below.drew ?_) | (with_reducible refine below_then ?_ (by with_reducible assumption)) | (with_reducible refine Below.setCell ?_ (by go_size) _)))⟩
  | true =>
    have HH := Lib.hid (fun W (h : Below w.heap.size w W) => by have := set_Has (3 * n) bk ck ks (i : Int) W (hp.ik.keep h); rw [show hasV (3 * n) ks (i : Int) = false from hno] at this; exact this)
    generalize sChk (3 * n) ks = x at *
    clear hp hno
    go_enter Tryz.func83, Tryz.ntmps83
    go_wp2_with (first | ((with_reducible refine (HH.out _ (by (repeat (first | (with_reducible exact Below.refl _ _) | (with_reducible assumption) | (with_reducible refine below_alloc ?_ _) | (with_reducible refine below_drewN ?_ _) | (with_reducible refine Below.drew ?_) | (with_reducible refine below_then ?_ (by with_reducible assumption)) | (with_reducible refine Below.setCell ?_ (by go_size) _))))).mono ?_); rintro e w1 ⟨rfl, hb1⟩; (obtain ⟨hc1, hf1⟩ := bcell hb1; have hz1 := hb1.size; (try simp at hz1))) | (refine wp_region_quiet_lit (by kernel_rfl) (by kernel_rfl) ?_; (repeat (any_goals (first | go_big_quiet_step (fail) | quiet_step (fail) | (refine wpQuiet_step (fun K hK => ?_); go_simp; split <;> (refine hK _ ?_; clear hK K))))); all_goals (refine wpQuiet_nil ?_; intro _ hw'; obtain ⟨nq, hw''⟩ := hw'; subst hw'')))
    go_returns
    exact ⟨rfl, by (repeat (first | (with_reducible exact Below.refl _ _) | (with_reducible assumption) | (with_reducible refine below_alloc ?_ _) | (with_reducible refine below_drewN ?_ _) | (with_reducible refine Below.drew ?_) | (with_reducible refine below_then ?_ (by with_reducible assumption)) | (with_reducible refine Below.setCell ?_ (by go_size) _)))⟩
/-- What is known behind a calendar's being put. -/
def Putt (w : World) (G off Tb Qb : Nat) (tk mn : Bool) (c : List Sl) (s : Sl) (W' : World) : Prop :=
  ∃ W1 u, Below w.heap.size w W1 ∧ W1.ownsRow w.heap.size 68 3 u (putV c s).length (slc (putV c s)) ∧ W' = ((W1.setCell ⟨Tb, 0, none⟩ (.bool (tkE tk (putE c s)))).setCell ⟨Qb, 0, none⟩ (.bool (mnE mn (putE c s)))).setCell ⟨G, off, none⟩ u
set_option maxRecDepth 100000 in set_option maxHeartbeats 4000000 in
theorem cals_put1_yes (kk : Bool) (i G off Mb Nb Kb Sb Tb Qb : Nat) (tM tN tK tS tT tQ : TypeId) (bm bk : Option Addr) (cm ck : Nat) (ms ks : List Nat) (n : Int) (s : Sl) (tk mn : Bool) (b : Option Addr) (cap : Nat) (c : List Sl) (w : World)
    (hp : PAt w Mb Nb Kb Sb Tb Qb tM tN tK tS tT tQ bm bk cm ck ms ks n s tk mn) (n1 : 1 ≤ n) (n2 : n ≤ 4096) (hyes : hasV (boundOf kk n) (inOf kk ms ks) (i : Int) = true)
    (hcell : w.cell? ⟨G, off, none⟩ = some (.slice b c.length cap)) (hfr : w.frozen? ⟨G, off, none⟩ = false) (hc : CIn w b c) (hcn : b = none → c.length = 0) (hTQ : Tb ≠ Qb) (hGT : G ≠ Tb) (hGQ : G ≠ Qb) :
    Calls Tryz.prog 83 #[.bool kk, .int .i64 (i : Int), .pointer (some ⟨G, off, none⟩), .pointer (some ⟨Mb, 0, none⟩), .pointer (some ⟨Nb, 0, none⟩), .pointer (some ⟨Kb, 0, none⟩), .pointer (some ⟨Sb, 0, none⟩), .pointer (some ⟨Tb, 0, none⟩), .pointer (some ⟨Qb, 0, none⟩)] w (fun e W' => e = .returned (.tuple #[]) ∧ Putt w G off Tb Qb tk mn c s W') := by
  have HP := Lib.hid hp
  have HC := Lib.hid (fun W (h : Below w.heap.size w W) => cal_Put b cap c s W (hc.keep h) hcn)
  have hG := World.block_lt_of_cell? w _ hcell
  have m0 := hp.m.cell 0 _ rfl
  have n0 := hp.n.cell 0 _ rfl
  have k0 := hp.k.cell 0 _ rfl
  have HCe := Lib.hid hcell
  have HFr := Lib.hid hfr
  have HX : ∀ W, Below w.heap.size w W → ∃ x, Calls Tryz.prog 84 #[.int .i64 (boundOf kk n), (if kk then .slice bk ks.length ck else .slice bm ms.length cm), .int .i64 (i : Int)] W (RB W (.tuple #[.bool true, .int .i64 x])) := by
    intro W h
    cases kk with
    | false => exact ⟨_, by have := set_Has n bm cm ms (i : Int) W (hp.im.keep h); rw [show hasV n ms (i : Int) = true from hyes] at this; exact this⟩
    | true => exact ⟨_, by have := set_Has (3 * n) bk ck ks (i : Int) W (hp.ik.keep h); rw [show hasV (3 * n) ks (i : Int) = true from hyes] at this; exact this⟩
  have HX := Lib.hid HX
  generalize hpe : putE c s = pe at *
  generalize hpv : putV c s = pv at *
  clear hp hyes hc hcn hcell hfr
  cases kk with
  | false =>
    have HX := Lib.hid (fun W (h : Below w.heap.size w W) => (show ∃ x, Calls Tryz.prog 84 #[.int .i64 n, .slice bm ms.length cm, .int .i64 (i : Int)] W (RB W (.tuple #[.bool true, .int .i64 x])) from HX.out W h))
    go_enter Tryz.func83, Tryz.ntmps83
    go_wp2_with (refine wp_region_quiet_lit (by kernel_rfl) (by kernel_rfl) ?_; (repeat (any_goals (first | go_big_quiet_step (fail) | quiet_step (fail) | (refine wpQuiet_step (fun K hK => ?_); go_simp; split <;> (refine hK _ ?_; clear hK K))))); all_goals (refine wpQuiet_nil ?_; intro _ hw'; obtain ⟨nq, hw''⟩ := hw'; subst hw''))
    refine Exists.elim (HX.out _ (by (repeat (first | (with_reducible exact Below.refl _ _) | (with_reducible assumption) | (with_reducible refine below_alloc ?_ _) | (with_reducible refine below_drewN ?_ _) | (with_reducible refine Below.drew ?_) | (with_reducible refine below_then ?_ (by with_reducible assumption)) | (with_reducible refine Below.setCell ?_ (by go_size) _))))) (fun x HX1 => HX1.mono ?_)
    rintro e w1 ⟨rfl, hb1⟩
    have hB : Below w.heap.size w w1 := by (repeat (first | (with_reducible exact Below.refl _ _) | (with_reducible assumption) | (with_reducible refine below_alloc ?_ _) | (with_reducible refine below_drewN ?_ _) | (with_reducible refine Below.drew ?_) | (with_reducible refine below_then ?_ (by with_reducible assumption)) | (with_reducible refine Below.setCell ?_ (by go_size) _)))
    have HP1 := Lib.hid (HP.out.keep hB)
    have HB := Lib.hid hB
    have HC := Lib.hid (fun W (h : Below w1.heap.size w1 W) => HC.out W (below_then hB h))
    have e0 : w1.cell? ⟨G, off, none⟩ = some (.slice b c.length cap) := (hB.cell (p := ⟨G, off, none⟩) hG).trans HCe.out
    have HFr := Lib.hid (show w1.frozen? ⟨G, off, none⟩ = false from (hB.frozen (p := ⟨G, off, none⟩) hG).trans HFr.out)
    have hG1 := World.block_lt_of_cell? w1 _ e0
    have hz := hB.size
    clear hb1 hB HX HX1 m0 n0 k0 HCe
    go_upto_region 5 with fail
    have s0 := HP1.out.s.cell 0 _ rfl
    have s1 := HP1.out.s.cell 1 _ rfl
    have s2 := HP1.out.s.cell 2 _ rfl
    have mixed : Tryz.prog.follows .mixedOrders = true := by kernel_rfl
    go_region_held3 (fun W => W.cell? ⟨G, off, none⟩ = some (.slice b c.length cap) ∧ W.cell? ⟨Sb, 0, none⟩ = some (.int .i64 s.f) ∧ W.cell? ⟨Sb, 1, none⟩ = some (.int .i64 s.t) ∧ W.cell? ⟨Sb, 2, none⟩ = some (.int .i64 s.o)) (go_keep)
      (first | ((with_reducible refine (HC.out _ (by (repeat (first | (with_reducible exact Below.refl _ _) | (with_reducible assumption) | (with_reducible refine below_alloc ?_ _) | (with_reducible refine below_drewN ?_ _) | (with_reducible refine Below.drew ?_) | (with_reducible refine below_then ?_ (by with_reducible assumption)) | (with_reducible refine Below.setCell ?_ (by go_size) _))))).mono ?_); rintro e wa ⟨va, rfl, hoa, hba⟩; obtain ⟨xa, ya, rfl, _⟩ := own_rd hoa; have HBa := below_then (show Below w1.heap.size w1 _ by (repeat (first | (with_reducible exact Below.refl _ _) | (with_reducible assumption) | (with_reducible refine below_alloc ?_ _) | (with_reducible refine below_drewN ?_ _) | (with_reducible refine Below.drew ?_) | (with_reducible refine below_then ?_ (by with_reducible assumption)) | (with_reducible refine Below.setCell ?_ (by go_size) _)))) hba; have HPa := HP1.out.keep HBa; have s0 := HPa.s.cell 0 _ rfl; have s1 := HPa.s.cell 1 _ rfl; have s2 := HPa.s.cell 2 _ rfl; have ea := (HBa.cell (p := ⟨G, off, none⟩) hG1).trans e0))
    have ta := HPa.t.cell 0 _ rfl
    have tf := HPa.t.frozen 0
    have qa := HPa.q.cell 0 _ rfl
    have qf := HPa.q.frozen 0
    have gf := (HBa.frozen (p := ⟨G, off, none⟩) hG1).trans HFr.out
    cases tk <;> cases mn
    all_goals
      go_wp2_with fail
      go_returns
      exact ⟨rfl, wa, .slice xa pv.length ya, below_then HB.out HBa, by rw [hpv]; exact own_mono hoa (by first | exact hz | omega), by rw [hpe]; rfl⟩
  | true =>
    have HX := Lib.hid (fun W (h : Below w.heap.size w W) => (show ∃ x, Calls Tryz.prog 84 #[.int .i64 (3 * n), .slice bk ks.length ck, .int .i64 (i : Int)] W (RB W (.tuple #[.bool true, .int .i64 x])) from HX.out W h))
    go_enter Tryz.func83, Tryz.ntmps83
    go_wp2_with (refine wp_region_quiet_lit (by kernel_rfl) (by kernel_rfl) ?_; (repeat (any_goals (first | go_big_quiet_step (fail) | quiet_step (fail) | (refine wpQuiet_step (fun K hK => ?_); go_simp; split <;> (refine hK _ ?_; clear hK K))))); all_goals (refine wpQuiet_nil ?_; intro _ hw'; obtain ⟨nq, hw''⟩ := hw'; subst hw''))
    refine Exists.elim (HX.out _ (by (repeat (first | (with_reducible exact Below.refl _ _) | (with_reducible assumption) | (with_reducible refine below_alloc ?_ _) | (with_reducible refine below_drewN ?_ _) | (with_reducible refine Below.drew ?_) | (with_reducible refine below_then ?_ (by with_reducible assumption)) | (with_reducible refine Below.setCell ?_ (by go_size) _))))) (fun x HX1 => HX1.mono ?_)
    rintro e w1 ⟨rfl, hb1⟩
    have hB : Below w.heap.size w w1 := by (repeat (first | (with_reducible exact Below.refl _ _) | (with_reducible assumption) | (with_reducible refine below_alloc ?_ _) | (with_reducible refine below_drewN ?_ _) | (with_reducible refine Below.drew ?_) | (with_reducible refine below_then ?_ (by with_reducible assumption)) | (with_reducible refine Below.setCell ?_ (by go_size) _)))
    have HP1 := Lib.hid (HP.out.keep hB)
    have HB := Lib.hid hB
    have HC := Lib.hid (fun W (h : Below w1.heap.size w1 W) => HC.out W (below_then hB h))
    have e0 : w1.cell? ⟨G, off, none⟩ = some (.slice b c.length cap) := (hB.cell (p := ⟨G, off, none⟩) hG).trans HCe.out
    have HFr := Lib.hid (show w1.frozen? ⟨G, off, none⟩ = false from (hB.frozen (p := ⟨G, off, none⟩) hG).trans HFr.out)
    have hG1 := World.block_lt_of_cell? w1 _ e0
    have hz := hB.size
    clear hb1 hB HX HX1 m0 n0 k0 HCe
    go_upto_region 5 with fail
    have s0 := HP1.out.s.cell 0 _ rfl
    have s1 := HP1.out.s.cell 1 _ rfl
    have s2 := HP1.out.s.cell 2 _ rfl
    have mixed : Tryz.prog.follows .mixedOrders = true := by kernel_rfl
    go_region_held3 (fun W => W.cell? ⟨G, off, none⟩ = some (.slice b c.length cap) ∧ W.cell? ⟨Sb, 0, none⟩ = some (.int .i64 s.f) ∧ W.cell? ⟨Sb, 1, none⟩ = some (.int .i64 s.t) ∧ W.cell? ⟨Sb, 2, none⟩ = some (.int .i64 s.o)) (go_keep)
      (first | ((with_reducible refine (HC.out _ (by (repeat (first | (with_reducible exact Below.refl _ _) | (with_reducible assumption) | (with_reducible refine below_alloc ?_ _) | (with_reducible refine below_drewN ?_ _) | (with_reducible refine Below.drew ?_) | (with_reducible refine below_then ?_ (by with_reducible assumption)) | (with_reducible refine Below.setCell ?_ (by go_size) _))))).mono ?_); rintro e wa ⟨va, rfl, hoa, hba⟩; obtain ⟨xa, ya, rfl, _⟩ := own_rd hoa; have HBa := below_then (show Below w1.heap.size w1 _ by (repeat (first | (with_reducible exact Below.refl _ _) | (with_reducible assumption) | (with_reducible refine below_alloc ?_ _) | (with_reducible refine below_drewN ?_ _) | (with_reducible refine Below.drew ?_) | (with_reducible refine below_then ?_ (by with_reducible assumption)) | (with_reducible refine Below.setCell ?_ (by go_size) _)))) hba; have HPa := HP1.out.keep HBa; have s0 := HPa.s.cell 0 _ rfl; have s1 := HPa.s.cell 1 _ rfl; have s2 := HPa.s.cell 2 _ rfl; have ea := (HBa.cell (p := ⟨G, off, none⟩) hG1).trans e0))
    have ta := HPa.t.cell 0 _ rfl
    have tf := HPa.t.frozen 0
    have qa := HPa.q.cell 0 _ rfl
    have qf := HPa.q.frozen 0
    have gf := (HBa.frozen (p := ⟨G, off, none⟩) hG1).trans HFr.out
    cases tk <;> cases mn
    all_goals
      go_wp2_with fail
      go_returns
      exact ⟨rfl, wa, .slice xa pv.length ya, below_then HB.out HBa, by rw [hpv]; exact own_mono hoa (by first | exact hz | omega), by rw [hpe]; rfl⟩
end

section
open Go.RowKit Go.Shelf

/-! ### lists of calendars, the first k of them put -/
def pAt (a : List Nat) (s : Sl) (i : Nat) (c : List Sl) : List Sl := if there a i then putV c s else c
def calTo (a : List Nat) (s : Sl) (ns : List (List Sl)) (k : Nat) : List (List Sl) := ns.mapIdx (fun i c => if i < k then pAt a s i c else c)
theorem calTo_len (a : List Nat) (s : Sl) (ns : List (List Sl)) (k : Nat) : (calTo a s ns k).length = ns.length := by unfold calTo; simp
theorem calTo_at (a : List Nat) (s : Sl) (ns : List (List Sl)) (k i : Nat) : (calTo a s ns k)[i]? = (ns[i]?).map (fun c => if i < k then pAt a s i c else c) := by unfold calTo; rw [List.getElem?_mapIdx]
theorem calTo_zero (a : List Nat) (s : Sl) (ns : List (List Sl)) : calTo a s ns 0 = ns := by
  refine List.ext_getElem? fun i => ?_
  rw [calTo_at]
  cases ns[i]? <;> simp
theorem calTo_no {a : List Nat} {s : Sl} {ns : List (List Sl)} {k : Nat} (h : there a k = false) : calTo a s ns (k + 1) = calTo a s ns k := by
  refine List.ext_getElem? fun i => ?_
  rw [calTo_at, calTo_at]
  congr 1
  funext c
  by_cases hi : i = k
  · subst hi
    rw [if_pos (by omega), if_neg (by omega), pAt, h]
    rfl
  · by_cases hk : i < k
    · rw [if_pos (by omega), if_pos hk]
    · rw [if_neg (by omega), if_neg hk]
theorem calTo_yes {a : List Nat} {s : Sl} {ns : List (List Sl)} {k : Nat} {c : List Sl} (hc : ns[k]? = some c) (h : there a k = true) : (calTo a s ns k).set k (putV c s) = calTo a s ns (k + 1) := by
  have hk := (List.getElem?_eq_some_iff.1 hc).1
  refine List.ext_getElem? fun i => ?_
  by_cases hi : i = k
  · subst hi
    rw [List.getElem?_set_self (by rw [calTo_len]; exact hk), calTo_at, hc, Option.map_some, if_pos (by omega), pAt, h]
    rfl
  · rw [List.getElem?_set_ne (by omega), calTo_at, calTo_at]
    congr 1
    funext c
    by_cases hk : i < k
    · rw [if_pos hk, if_pos (by omega)]
    · rw [if_neg hk, if_neg (by omega)]
/-- Has an error been told of one of the first k? -/
def errTo (e : Int) (z : Bool) (a : List Nat) (s : Sl) (ns : List (List Sl)) : Nat → Bool
  | 0 => z
  | k + 1 => if there a k then errTo e z a s ns k || putE (ns[k]?.getD []) s == e else errTo e z a s ns k
theorem errTo_no {e : Int} {z : Bool} {a : List Nat} {s : Sl} {ns : List (List Sl)} {k : Nat} (h : there a k = false) : errTo e z a s ns (k + 1) = errTo e z a s ns k := by rw [errTo, h]; rfl
theorem errTo_yes {e : Int} {z : Bool} {a : List Nat} {s : Sl} {ns : List (List Sl)} {k : Nat} {c : List Sl} (hc : ns[k]? = some c) (h : there a k = true) : errTo e z a s ns (k + 1) = (errTo e z a s ns k || putE c s == e) := by rw [errTo, h, hc]; rfl

/-! ### what lies in memory -/
structure PBk (W : World) (Y Mb Nb Kb Sb Tb Qb Rb : Nat) (tY tM tN tK tS tT tQ tR : TypeId) (yv zv : Array Value) (bm bk : Option Addr) (cm ck : Nat) (ms ks : List Nat) (n : Int) (s : Sl) (tk mn : Bool) : Prop where
  y : Blk W Y tY yv
  m : Blk W Mb tM #[.slice bm ms.length cm]
  n : Blk W Nb tN #[.int .i64 n]
  k : Blk W Kb tK #[.slice bk ks.length ck]
  s : Blk W Sb tS #[.int .i64 s.f, .int .i64 s.t, .int .i64 s.o]
  t : Blk W Tb tT #[.bool tk]
  q : Blk W Qb tQ #[.bool mn]
  r : Blk W Rb tR zv
theorem PBk.keep {Y Mb Nb Kb Sb Tb Qb Rb : Nat} {tY tM tN tK tS tT tQ tR : TypeId} {yv zv : Array Value} {bm bk : Option Addr} {cm ck : Nat} {ms ks : List Nat} {n : Int} {s : Sl} {tk mn : Bool} {w W : World} (h : PBk w Y Mb Nb Kb Sb Tb Qb Rb tY tM tN tK tS tT tQ tR yv zv bm bk cm ck ms ks n s tk mn) (hb : Below w.heap.size w W) : PBk W Y Mb Nb Kb Sb Tb Qb Rb tY tM tN tK tS tT tQ tR yv zv bm bk cm ck ms ks n s tk mn := ⟨h.y.below hb, h.m.below hb, h.n.below hb, h.k.below hb, h.s.below hb, h.t.below hb, h.q.below hb, h.r.below hb⟩
theorem PBk.at' {Y Mb Nb Kb Sb Tb Qb Rb : Nat} {tY tM tN tK tS tT tQ tR : TypeId} {yv zv : Array Value} {bm bk : Option Addr} {cm ck : Nat} {ms ks : List Nat} {n : Int} {s : Sl} {tk mn : Bool} {w W : World} (h : PBk W Y Mb Nb Kb Sb Tb Qb Rb tY tM tN tK tS tT tQ tR yv zv bm bk cm ck ms ks n s tk mn) (hm : SetIn w bm ms) (hk : SetIn w bk ks) (hb : Below w.heap.size w W) : PAt W Mb Nb Kb Sb Tb Qb tM tN tK tS tT tQ bm bk cm ck ms ks n s tk mn :=
  ⟨h.m, h.n, h.k, h.s, h.t, h.q, hm.keep hb, hk.keep hb⟩
/-- The blocks of Put's frame lie apart, below S. -/
structure Apart (S Y Mb Nb Kb Sb Tb Qb Rb : Nat) : Prop where
  r : Rb ≠ Tb ∧ Rb ≠ Qb ∧ Rb < S
  y : Y ≠ Tb ∧ Y ≠ Qb ∧ Y < S
  m : Mb ≠ Tb ∧ Mb ≠ Qb ∧ Mb < S
  n : Nb ≠ Tb ∧ Nb ≠ Qb ∧ Nb < S
  k : Kb ≠ Tb ∧ Kb ≠ Qb ∧ Kb < S
  s : Sb ≠ Tb ∧ Sb ≠ Qb ∧ Sb < S
  t : Tb ≠ Qb ∧ Tb < S ∧ Qb < S
theorem putt_step {Y Mb Nb Kb Sb Tb Qb Rb : Nat} {tY tM tN tK tS tT tQ tR : TypeId} {yv zv : Array Value} {bm bk : Option Addr} {cm ck : Nat} {ms ks : List Nat} {n : Int} {s : Sl} {tk mn : Bool} {w W W' : World} {S g cap k : Nat} {L : List (List Sl)} {v : Value} {c : List Sl} (ha : Apart S Y Mb Nb Kb Sb Tb Qb Rb) (hT : w.heap.size ≤ Tb ∧ w.heap.size ≤ Qb ∧ w.heap.size ≤ S)
    (hp : PBk W Y Mb Nb Kb Sb Tb Qb Rb tY tM tN tK tS tT tQ tR yv zv bm bk cm ck ms ks n s tk mn) (hb : Below w.heap.size w W) (hS : S ≤ W.heap.size) (hl : LO W S v L) (hv : v = .slice (some ⟨g, 0, none⟩) L.length cap) (hg : S ≤ g) (hc : L[k]? = some c) (hcl : c.length ≤ 1000000) (h : Putt W g k Tb Qb tk mn c s W') :
    PBk W' Y Mb Nb Kb Sb Tb Qb Rb tY tM tN tK tS tT tQ tR yv zv bm bk cm ck ms ks n s (tkE tk (putE c s)) (mnE mn (putE c s)) ∧ Below w.heap.size w W' ∧ S ≤ W'.heap.size ∧ LO W' S v (L.set k (putV c s)) ∧ ∀ (u2 : Value) (ns2 : List (List Sl)), LO W S u2 ns2 → (u2.ownBlock = none ∨ u2.ownBlock ≠ some g) → LO W' S u2 ns2 := by
  obtain ⟨W1, u, h1, h2, rfl⟩ := h
  obtain ⟨t1, t2, t3⟩ := ha.t
  have hp1 := hp.keep h1
  have hl2 : LO ((W1.setCell ⟨Tb, 0, none⟩ (.bool (tkE tk (putE c s)))).setCell ⟨Qb, 0, none⟩ (.bool (mnE mn (putE c s)))) S v L := ((hl.keep h1).set Tb 0 _ t2).set Qb 0 _ t3
  have hu2 : ((W1.setCell ⟨Tb, 0, none⟩ (.bool (tkE tk (putE c s)))).setCell ⟨Qb, 0, none⟩ (.bool (mnE mn (putE c s)))).ownsRow S 68 3 u (putV c s).length (slc (putV c s)) := own_set (own_set (own_mono h2 hS) Tb 0 _ t2) Qb 0 _ t3
  obtain ⟨g', cap', b, cp, e, _, _, _, _, _, _, _, hst⟩ := hl2.step hc hcl
  rw [hv] at e
  cases e
  obtain ⟨q1, _, _, q4⟩ := hst _ u (putV c s) (Below.refl _ _) hu2
  refine ⟨⟨?_, ?_, ?_, ?_, ?_, ?_, ?_, ?_⟩, ?_, ?_, q1, ?_⟩
  · exact ((hp1.y.other _ _ _ ha.y.1).other _ _ _ ha.y.2.1).other _ _ _ (by have := ha.y.2.2; omega)
  · exact ((hp1.m.other _ _ _ ha.m.1).other _ _ _ ha.m.2.1).other _ _ _ (by have := ha.m.2.2; omega)
  · exact ((hp1.n.other _ _ _ ha.n.1).other _ _ _ ha.n.2.1).other _ _ _ (by have := ha.n.2.2; omega)
  · exact ((hp1.k.other _ _ _ ha.k.1).other _ _ _ ha.k.2.1).other _ _ _ (by have := ha.k.2.2; omega)
  · exact ((hp1.s.other _ _ _ ha.s.1).other _ _ _ ha.s.2.1).other _ _ _ (by have := ha.s.2.2; omega)
  · exact ((hp1.t.set 0 _).other _ _ _ t1).other _ _ _ (by omega)
  · exact ((hp1.q.other _ _ _ (fun e => t1 e.symm)).set 0 _).other _ _ _ (by omega)
  · exact ((hp1.r.other _ _ _ ha.r.1).other _ _ _ ha.r.2.1).other _ _ _ (by have := ha.r.2.2; omega)
  · exact (((below_then hb h1).setCell hT.1 _).setCell hT.2.1 _).setCell (by show w.heap.size ≤ g; omega) _
  · rw [sz_set, sz_set, sz_set]; have := h1.size; omega
  · intro u2 ns2 hlo hne
    exact q4 S u2 ns2 (((hlo.keep h1).set Tb 0 _ t2).set Qb 0 _ t3) hne

theorem hne_symm {u v : Value} (h : u.ownBlock = none ∨ u.ownBlock ≠ v.ownBlock) : v.ownBlock = none ∨ v.ownBlock ≠ u.ownBlock := by
  rcases h with h | h
  · cases hv : v.ownBlock with
    | none => exact .inl rfl
    | some b => exact .inr (by rw [h]; exact fun e => by cases e)
  · exact .inr (fun e => h e.symm)
/-! ### Put at each -/
def PI (Y Mb Nb Kb Sb Tb Qb Rb : Nat) (tY tM tN tK tS tT tQ tR : TypeId) (yv zv : Array Value) (bm bk : Option Addr) (cm ck : Nat) (ms ks : List Nat) (n : Int) (s : Sl) (w : World) (S : Nat) (u v : Value) (ns ls : List (List Sl)) (k : Nat) (W : World) : Prop :=
  PBk W Y Mb Nb Kb Sb Tb Qb Rb tY tM tN tK tS tT tQ tR yv zv bm bk cm ck ms ks n s (errTo 80 false ms s ns k) (errTo 4 false ms s ns k) ∧ LO W S u (calTo ms s ns k) ∧ LO W S v ls ∧ Below w.heap.size w W ∧ S ≤ W.heap.size
def PJ (Y Mb Nb Kb Sb Tb Qb Rb : Nat) (tY tM tN tK tS tT tQ tR : TypeId) (yv zv : Array Value) (bm bk : Option Addr) (cm ck : Nat) (ms ks : List Nat) (n : Int) (s : Sl) (w : World) (S : Nat) (u v : Value) (ns ls : List (List Sl)) (k : Nat) (W : World) : Prop :=
  PBk W Y Mb Nb Kb Sb Tb Qb Rb tY tM tN tK tS tT tQ tR yv zv bm bk cm ck ms ks n s (errTo 80 (errTo 80 false ms s ns ns.length) ks s ls k) (errTo 4 (errTo 4 false ms s ns ns.length) ks s ls k) ∧ LO W S u (calTo ms s ns ns.length) ∧ LO W S v (calTo ks s ls k) ∧ Below w.heap.size w W ∧ S ≤ W.heap.size
theorem hasV_at {n : Int} {ws : List Nat} (h : sChk n ws = 0) (k : Nat) : hasV n ws (k : Int) = there ws k := by
  unfold hasV; rw [if_pos h, hasI_nat]
theorem put_each (Y Mb Nb Kb Sb Tb Qb Rb : Nat) (tY tM tN tK tS tT tQ tR : TypeId) (yv zv : Array Value) (bm bk : Option Addr) (cm ck : Nat) (ms ks : List Nat) (n : Int) (s : Sl) (d : V3) (ub vb : Option Addr) (uc vc S : Nat) (ns ls : List (List Sl)) (w W : World)
    (hyv : yv = #[.int .i64 d.x, .int .i64 d.y, .int .i64 d.z, (.slice ub ns.length uc), (.slice vb ls.length vc)]) (ha : Apart S Y Mb Nb Kb Sb Tb Qb Rb) (hT : w.heap.size ≤ Tb ∧ w.heap.size ≤ Qb ∧ w.heap.size ≤ S)
    (hm : SetIn w bm ms) (hk : SetIn w bk ks) (n1 : 1 ≤ n) (n2 : n ≤ 4096) (c1 : sChk n ms = 0) (c2 : sChk (3 * n) ks = 0) (s1 : ns.length ≤ 1000 ∧ ∀ c ∈ ns, c.length ≤ 10000) (s2 : ls.length ≤ 1000 ∧ ∀ c ∈ ls, c.length ≤ 10000)
    (hne : (Value.slice ub ns.length uc).ownBlock = none ∨ (Value.slice ub ns.length uc).ownBlock ≠ (Value.slice vb ls.length vc).ownBlock)
    (h0 : PI Y Mb Nb Kb Sb Tb Qb Rb tY tM tN tK tS tT tQ tR yv zv bm bk cm ck ms ks n s w S (.slice ub ns.length uc) (.slice vb ls.length vc) ns ls 0 W) :
    Calls Tryz.prog 82 #[.pointer (some ⟨Y, 0, none⟩), .func (.func 83) #[] #[.pointer (some ⟨Mb, 0, none⟩), .pointer (some ⟨Nb, 0, none⟩), .pointer (some ⟨Kb, 0, none⟩), .pointer (some ⟨Sb, 0, none⟩), .pointer (some ⟨Tb, 0, none⟩), .pointer (some ⟨Qb, 0, none⟩)]] W (fun e W' => e = .returned (.tuple #[]) ∧ PJ Y Mb Nb Kb Sb Tb Qb Rb tY tM tN tK tS tT tQ tR yv zv bm bk cm ck ms ks n s w S (.slice ub ns.length uc) (.slice vb ls.length vc) ns ls ls.length W') := by
  have eg1 : ∀ args w, (callFunc 83 args).run Tryz.prog w = .ok (.enter 83 args) w := enters_of Tryz.func83 (by kernel_rfl) rfl
  refine cals_each 83 #[.pointer (some ⟨Mb, 0, none⟩), .pointer (some ⟨Nb, 0, none⟩), .pointer (some ⟨Kb, 0, none⟩), .pointer (some ⟨Sb, 0, none⟩), .pointer (some ⟨Tb, 0, none⟩), .pointer (some ⟨Qb, 0, none⟩)] Y ub vb uc vc ns.length ls.length (PI Y Mb Nb Kb Sb Tb Qb Rb tY tM tN tK tS tT tQ tR yv zv bm bk cm ck ms ks n s w S (.slice ub ns.length uc) (.slice vb ls.length vc) ns ls) (PJ Y Mb Nb Kb Sb Tb Qb Rb tY tM tN tK tS tT tQ tR yv zv bm bk cm ck ms ks n s w S (.slice ub ns.length uc) (.slice vb ls.length vc) ns ls) W eg1 s1.1 s2.1 ?_ ?_ ?_ ?_ ?_ h0
  · rintro k W ⟨h1, h2, h3, h4, h5⟩
    have := h1.y
    rw [hyv] at this
    exact this.cell 3 _ rfl
  · rintro k W ⟨h1, h2, h3, h4, h5⟩
    have := h1.y
    rw [hyv] at this
    exact this.cell 4 _ rfl
  · intro k W hlt hI
    obtain ⟨h1, h2, h3, h4, h5⟩ := hI
    obtain ⟨c, hc⟩ : ∃ c, ns[k]? = some c := ⟨_, List.getElem?_eq_getElem hlt⟩
    have hcm : (calTo ms s ns k)[k]? = some c := by rw [calTo_at, hc, Option.map_some, if_neg (by omega)]
    have hcl := s1.2 c (List.mem_of_getElem? hc)
    obtain ⟨g, cap, b, cp, e, hgB, hgl, hce, hfr, hci, hle, hnn, hst⟩ := h2.step hcm (by omega)
    rw [calTo_len] at e
    cases e
    have hat := h1.at' hm hk h4
    refine ⟨g, 0, rfl, ?_⟩
    cases hth : there ms k with
    | false =>
      refine Calls.mono (cals_put1_no false k g (0 + k) Mb Nb Kb Sb Tb Qb tM tN tK tS tT tQ bm bk cm ck ms ks n s _ _ W hat n1 n2 (by show hasV n ms (k : Int) = false; rw [hasV_at c1, hth])) ?_
      rintro e w1 ⟨rfl, hb1⟩
      refine ⟨rfl, ?_, by rw [calTo_no hth]; exact h2.keep hb1, h3.keep hb1, below_then h4 hb1, Nat.le_trans h5 hb1.size⟩
      rw [errTo_no hth, errTo_no hth]
      exact h1.keep hb1
    | true =>
      refine Calls.mono (cals_put1_yes false k g (0 + k) Mb Nb Kb Sb Tb Qb tM tN tK tS tT tQ bm bk cm ck ms ks n s _ _ b cp c W hat n1 n2 (by show hasV n ms (k : Int) = true; rw [hasV_at c1, hth]) (by rw [Nat.zero_add]; exact hce) (by rw [Nat.zero_add]; exact hfr) hci (fun e => by have := hnn e; omega) ha.t.1 (by have := ha.t.2.1; omega) (by have := ha.t.2.2; omega)) ?_
      rintro e w1 ⟨rfl, hp⟩
      rw [Nat.zero_add] at hp
      obtain ⟨k1, k2, k3, k4, k5⟩ := putt_step ha hT h1 h4 h5 h2 (by rw [calTo_len]) hgB hcm (by omega) hp
      refine ⟨rfl, ?_, by rw [← calTo_yes hc hth]; exact k4, k5 _ _ h3 (hne_symm hne), k2, k3⟩
      rw [errTo_yes hc hth, errTo_yes hc hth]
      exact k1
  · rintro W ⟨h1, h2, h3, h4, h5⟩
    exact ⟨h1, h2, by rw [calTo_zero]; exact h3, h4, h5⟩
  · intro k W hlt hJ
    obtain ⟨h1, h2, h3, h4, h5⟩ := hJ
    obtain ⟨c, hc⟩ : ∃ c, ls[k]? = some c := ⟨_, List.getElem?_eq_getElem hlt⟩
    have hcm : (calTo ks s ls k)[k]? = some c := by rw [calTo_at, hc, Option.map_some, if_neg (by omega)]
    have hcl := s2.2 c (List.mem_of_getElem? hc)
    obtain ⟨g, cap, b, cp, e, hgB, hgl, hce, hfr, hci, hle, hnn, hst⟩ := h3.step hcm (by omega)
    rw [calTo_len] at e
    cases e
    have hat := h1.at' hm hk h4
    refine ⟨g, 0, rfl, ?_⟩
    cases hth : there ks k with
    | false =>
      refine Calls.mono (cals_put1_no true k g (0 + k) Mb Nb Kb Sb Tb Qb tM tN tK tS tT tQ bm bk cm ck ms ks n s _ _ W hat n1 n2 (by show hasV (3 * n) ks (k : Int) = false; rw [hasV_at c2, hth])) ?_
      rintro e w1 ⟨rfl, hb1⟩
      refine ⟨rfl, ?_, h2.keep hb1, by rw [calTo_no hth]; exact h3.keep hb1, below_then h4 hb1, Nat.le_trans h5 hb1.size⟩
      rw [errTo_no hth, errTo_no hth]
      exact h1.keep hb1
    | true =>
      refine Calls.mono (cals_put1_yes true k g (0 + k) Mb Nb Kb Sb Tb Qb tM tN tK tS tT tQ bm bk cm ck ms ks n s _ _ b cp c W hat n1 n2 (by show hasV (3 * n) ks (k : Int) = true; rw [hasV_at c2, hth]) (by rw [Nat.zero_add]; exact hce) (by rw [Nat.zero_add]; exact hfr) hci (fun e => by have := hnn e; omega) ha.t.1 (by have := ha.t.2.1; omega) (by have := ha.t.2.2; omega)) ?_
      rintro e w1 ⟨rfl, hp⟩
      rw [Nat.zero_add] at hp
      obtain ⟨k1, k2, k3, k4, k5⟩ := putt_step ha hT h1 h4 h5 h3 (by rw [calTo_len]) hgB hcm (by omega) hp
      refine ⟨rfl, ?_, k5 _ _ h2 hne, by rw [← calTo_yes hc hth]; exact k4, k2, k3⟩
      rw [errTo_yes hc hth, errTo_yes hc hth]
      exact k1
end

section
open Go.RowKit Go.Shelf

theorem putE_nil (s : Sl) : putE [] s = okIf s.may 2 := by
  unfold putE
  rw [if_pos (show calE [] = 0 from rfl)]
  by_cases h : s.may
  · rw [if_pos h, okIf_yes h, if_pos (show freeB [] s.f s.t = true from rfl), if_neg (by decide)]
  · rw [if_neg h, okIf_no h]
def yTk (e : Int) (y : Yd) (ms ks : List Nat) (s : Sl) : Bool := errTo e (errTo e false ms s y.ns y.ns.length) ks s y.ls y.ls.length
/-- The error of putting. -/
def yPutE (y : Yd) (ms ks : List Nat) (s : Sl) : Int :=
  if y.okB then if sChk y.ns.length ms = 0 then if sChk (3 * (y.ns.length : Int)) ks = 0 then if s.may then if yTk 80 y ms ks s then 80 else if yTk 4 y ms ks s then 4 else 0 else 2 else 8 else 8 else 8
def Yd.zero : Yd := ⟨⟨0, 0, 0⟩, [], []⟩
def yPutV (y : Yd) (ms ks : List Nat) (s : Sl) : Yd := if yPutE y ms ks s = 0 then ⟨y.d, calTo ms s y.ns y.ns.length, calTo ks s y.ls y.ls.length⟩ else Yd.zero
/-- New calendars of a machine, and an error. -/
def RYE (w : World) (y : Yd) (x : Int) : Ending → World → Prop := fun e w' => ∃ u v, e = .returned (.tuple #[.agg #[.int .i64 y.d.x, .int .i64 y.d.y, .int .i64 y.d.z, u, v], .int .i64 x]) ∧ LO w' w.heap.size u y.ns ∧ LO w' w.heap.size v y.ls ∧ Below w.heap.size w w'
theorem RYE.zero (w w' : World) (x : Int) (h : Below w.heap.size w w') : RYE w Yd.zero x (.returned (.tuple #[.agg #[.int .i64 0, .int .i64 0, .int .i64 0, .slice none 0 0, .slice none 0 0], .int .i64 x])) w' :=
  ⟨_, _, rfl, LO.nil _ _, LO.nil _ _, h⟩
/-- Put's frame, behind its first boxes. -/
structure PFr (w W : World) (d : V3) (bn bl : Option Addr) (cn cl : Nat) (ns ls : List (List Sl)) (bm bk : Option Addr) (cm ck : Nat) (ms ks : List Nat) (s : Sl) : Prop where
  y : Blk W w.heap.size 26 #[.int .i64 d.x, .int .i64 d.y, .int .i64 d.z, (.slice bn ns.length cn), (.slice bl ls.length cl)]
  m : Blk W (w.heap.size + 1) 33 #[.slice bm ms.length cm]
  k : Blk W (w.heap.size + 1 + 1) 33 #[.slice bk ks.length ck]
  p : Blk W (w.heap.size + 1 + 1 + 1) 35 #[.int .i64 s.f, .int .i64 s.t]
  r : Blk W (w.heap.size + 1 + 1 + 1 + 1) 26 #[.int .i64 0, .int .i64 0, .int .i64 0, .slice none 0 0, .slice none 0 0]
  b : Below w.heap.size w W
  z : w.heap.size + 5 ≤ W.heap.size
theorem PFr.keep {w W W' : World} {d : V3} {bn bl : Option Addr} {cn cl : Nat} {ns ls : List (List Sl)} {bm bk : Option Addr} {cm ck : Nat} {ms ks : List Nat} {s : Sl} (h : PFr w W d bn bl cn cl ns ls bm bk cm ck ms ks s) (hb : Below W.heap.size W W') : PFr w W' d bn bl cn cl ns ls bm bk cm ck ms ks s :=
  ⟨h.y.below hb, h.m.below hb, h.k.below hb, h.p.below hb, h.r.below hb, below_then h.b hb, Nat.le_trans h.z hb.size⟩
theorem PFr.new (w : World) (d : V3) (bn bl : Option Addr) (cn cl : Nat) (ns ls : List (List Sl)) (bm bk : Option Addr) (cm ck : Nat) (ms ks : List Nat) (s : Sl) : PFr w (((((w.alloc (.cells #[.int .i64 d.x, .int .i64 d.y, .int .i64 d.z, (.slice bn ns.length cn), (.slice bl ls.length cl)] 26)).alloc (.cells #[.slice bm ms.length cm] 33)).alloc (.cells #[.slice bk ks.length ck] 33)).alloc (.cells #[.int .i64 s.f, .int .i64 s.t] 35)).alloc (.cells #[.int .i64 0, .int .i64 0, .int .i64 0, .slice none 0 0, .slice none 0 0] 26)) d bn bl cn cl ns ls bm bk cm ck ms ks s := by
  have e1 : w.heap.size + 1 = (w.alloc (.cells #[.int .i64 d.x, .int .i64 d.y, .int .i64 d.z, (.slice bn ns.length cn), (.slice bl ls.length cl)] 26)).heap.size := by simp
  have e2 : w.heap.size + 1 + 1 = ((w.alloc (.cells #[.int .i64 d.x, .int .i64 d.y, .int .i64 d.z, (.slice bn ns.length cn), (.slice bl ls.length cl)] 26)).alloc (.cells #[.slice bm ms.length cm] 33)).heap.size := by simp
  have e3 : w.heap.size + 1 + 1 + 1 = (((w.alloc (.cells #[.int .i64 d.x, .int .i64 d.y, .int .i64 d.z, (.slice bn ns.length cn), (.slice bl ls.length cl)] 26)).alloc (.cells #[.slice bm ms.length cm] 33)).alloc (.cells #[.slice bk ks.length ck] 33)).heap.size := by simp
  have e4 : w.heap.size + 1 + 1 + 1 + 1 = ((((w.alloc (.cells #[.int .i64 d.x, .int .i64 d.y, .int .i64 d.z, (.slice bn ns.length cn), (.slice bl ls.length cl)] 26)).alloc (.cells #[.slice bm ms.length cm] 33)).alloc (.cells #[.slice bk ks.length ck] 33)).alloc (.cells #[.int .i64 s.f, .int .i64 s.t] 35)).heap.size := by simp
  refine ⟨((((Blk.new ..).alloc _).alloc _).alloc _).alloc _, ?_, ?_, ?_, ?_, by (repeat (first | (with_reducible exact Below.refl _ _) | (with_reducible assumption) | (with_reducible refine below_alloc ?_ _) | (with_reducible refine below_drewN ?_ _) | (with_reducible refine Below.drew ?_) | (with_reducible refine below_then ?_ (by with_reducible assumption)) | (with_reducible refine Below.setCell ?_ (by go_size) _))), by simp⟩
  · rw [e1]; exact (((Blk.new ..).alloc _).alloc _).alloc _
  · rw [e2]; exact ((Blk.new ..).alloc _).alloc _
  · rw [e3]; exact (Blk.new ..).alloc _
  · rw [e4]; exact Blk.new ..
set_option maxRecDepth 100000 in set_option maxHeartbeats 4000000 in
theorem cals_Put_bad (d : V3) (bn bl : Option Addr) (cn cl : Nat) (ns ls : List (List Sl)) (bm bk : Option Addr) (cm ck : Nat) (ms ks : List Nat) (s : Sl) (w : World) (hn : CC w bn ns) (hl : CC w bl ls) (hok : Yd.okB ⟨d, ns, ls⟩ = false) :
    Calls Tryz.prog 45 #[.agg #[.int .i64 d.x, .int .i64 d.y, .int .i64 d.z, (.slice bn ns.length cn), (.slice bl ls.length cl)], .int .i64 s.o, .slice bm ms.length cm, .slice bk ks.length ck, .agg #[.int .i64 s.f, .int .i64 s.t]] w (RYE w Yd.zero 8) := by
  obtain ⟨W0, hW0⟩ : ∃ W0, W0 = (((((w.alloc (.cells #[.int .i64 d.x, .int .i64 d.y, .int .i64 d.z, (.slice bn ns.length cn), (.slice bl ls.length cl)] 26)).alloc (.cells #[.slice bm ms.length cm] 33)).alloc (.cells #[.slice bk ks.length ck] 33)).alloc (.cells #[.int .i64 s.f, .int .i64 s.t] 35)).alloc (.cells #[.int .i64 0, .int .i64 0, .int .i64 0, .slice none 0 0, .slice none 0 0] 26)) := ⟨_, rfl⟩
  have F := Lib.hid (show PFr w W0 d bn bl cn cl ns ls bm bk cm ck ms ks s by rw [hW0]; exact PFr.new ..)
  have M1 := Lib.hid (fun W (h : Below w.heap.size w W) => Calls.rb_eq (cals_Check d bn bl cn cl ns ls W (hn.keep h) (hl.keep h)) (show Value.int .i64 (Yd.chk ⟨d, ns, ls⟩) = .int .i64 8 by unfold Yd.chk; rw [hok]; rfl))
  have HW := Lib.hid hW0
  clear hn hl hok hW0
  go_enter Tryz.func45, Tryz.ntmps45
  go_upto_region 1 with fail
  rw [← HW.out]
  (have y0 := F.out.y.cell 0 _ rfl; have y1 := F.out.y.cell 1 _ rfl; have y2 := F.out.y.cell 2 _ rfl; have y3 := F.out.y.cell 3 _ rfl; have y4 := F.out.y.cell 4 _ rfl)
  go_wp2_with fail
  refine (M1.out _ F.out.b).mono ?_
  rintro e w1 ⟨rfl, hb1⟩
  have F := Lib.hid (F.out.keep hb1)
  clear hb1 y0 y1 y2 y3 y4
  (have q0 := F.out.r.cell 0 _ rfl; have q1 := F.out.r.cell 1 _ rfl; have q2 := F.out.r.cell 2 _ rfl; have q3 := F.out.r.cell 3 _ rfl; have q4 := F.out.r.cell 4 _ rfl; have g0 := F.out.r.frozen 0; have g1 := F.out.r.frozen 1; have g2 := F.out.r.frozen 2; have g3 := F.out.r.frozen 3; have g4 := F.out.r.frozen 4)
  go_wp2_with fail
  (have R0 := (F.out.r).set 0 (.int .i64 0); have R1 := R0.set 1 (.int .i64 0); have R2 := R1.set 2 (.int .i64 0); have R3 := R2.set 3 (.slice none 0 0); have R4 := R3.set 4 (.slice none 0 0); have r0 := R0.cell 0 (.int .i64 0) rfl; have r1 := R1.cell 1 (.int .i64 0) rfl; have r2 := R2.cell 2 (.int .i64 0) rfl; have r3 := R3.cell 3 (.slice none 0 0) rfl; have r4 := R4.cell 4 (.slice none 0 0) rfl; clear R0 R1 R2 R3 R4; refine bodyPost_ret (by simp [results, Tryz.results45, go_sem, r0, r1, r2, r3, r4]; try rfl) rfl ?_)
  exact RYE.zero _ _ _ (by have hbF := F.out.b; (repeat (first | (with_reducible exact Below.refl _ _) | (with_reducible assumption) | (with_reducible refine below_alloc ?_ _) | (with_reducible refine below_drewN ?_ _) | (with_reducible refine Below.drew ?_) | (with_reducible refine below_then ?_ (by with_reducible assumption)) | (with_reducible refine Below.setCell ?_ (by go_size) _))))

theorem Blk.five {W : World} {B b : Nat} {t : TypeId} {cs : Array Value} {x0 x1 x2 x3 x4 : Value} (h : Blk W B t cs) (hne : B ≠ b) : Blk (((((W.setCell ⟨b, 0, none⟩ x0).setCell ⟨b, 1, none⟩ x1).setCell ⟨b, 2, none⟩ x2).setCell ⟨b, 3, none⟩ x3).setCell ⟨b, 4, none⟩ x4) B t cs :=
  ((((h.other b 0 x0 hne).other b 1 x1 hne).other b 2 x2 hne).other b 3 x3 hne).other b 4 x4 hne
theorem Blk.five' {W : World} {b : Nat} {t : TypeId} {y0 y1 y2 y3 y4 x0 x1 x2 x3 x4 : Value} (h : Blk W b t #[y0, y1, y2, y3, y4]) : Blk (((((W.setCell ⟨b, 0, none⟩ x0).setCell ⟨b, 1, none⟩ x1).setCell ⟨b, 2, none⟩ x2).setCell ⟨b, 3, none⟩ x3).setCell ⟨b, 4, none⟩ x4) b t #[x0, x1, x2, x3, x4] :=
  ((((h.set 0 x0).set 1 x1).set 2 x2).set 3 x3).set 4 x4
theorem below_five {N : Nat} {w W : World} {b : Nat} {x0 x1 x2 x3 x4 : Value} (h : Below N w W) (hb : N ≤ b) : Below N w (((((W.setCell ⟨b, 0, none⟩ x0).setCell ⟨b, 1, none⟩ x1).setCell ⟨b, 2, none⟩ x2).setCell ⟨b, 3, none⟩ x3).setCell ⟨b, 4, none⟩ x4) :=
  ((((h.setCell hb x0).setCell hb x1).setCell hb x2).setCell hb x3).setCell hb x4
set_option maxRecDepth 100000 in set_option maxHeartbeats 4000000 in
theorem cals_Put_go (d : V3) (bn bl : Option Addr) (cn cl : Nat) (ns ls : List (List Sl)) (bm bk : Option Addr) (cm ck : Nat) (ms ks : List Nat) (s : Sl) (w : World) (hn : CC w bn ns) (hl : CC w bl ls) (hm : SetIn w bm ms) (hk : SetIn w bk ks) (hok : Yd.okB ⟨d, ns, ls⟩ = true) :
    Calls Tryz.prog 45 #[.agg #[.int .i64 d.x, .int .i64 d.y, .int .i64 d.z, (.slice bn ns.length cn), (.slice bl ls.length cl)], .int .i64 s.o, .slice bm ms.length cm, .slice bk ks.length ck, .agg #[.int .i64 s.f, .int .i64 s.t]] w (RYE w (yPutV ⟨d, ns, ls⟩ ms ks s) (yPutE ⟨d, ns, ls⟩ ms ks s)) := by
  obtain ⟨W0, hW0⟩ : ∃ W0, W0 = (((((w.alloc (.cells #[.int .i64 d.x, .int .i64 d.y, .int .i64 d.z, (.slice bn ns.length cn), (.slice bl ls.length cl)] 26)).alloc (.cells #[.slice bm ms.length cm] 33)).alloc (.cells #[.slice bk ks.length ck] 33)).alloc (.cells #[.int .i64 s.f, .int .i64 s.t] 35)).alloc (.cells #[.int .i64 0, .int .i64 0, .int .i64 0, .slice none 0 0, .slice none 0 0] 26)) := ⟨_, rfl⟩
  have F := Lib.hid (show PFr w W0 d bn bl cn cl ns ls bm bk cm ck ms ks s by rw [hW0]; exact PFr.new ..)
  have M1 := Lib.hid (fun W (h : Below w.heap.size w W) => Calls.rb_eq (cals_Check d bn bl cn cl ns ls W (hn.keep h) (hl.keep h)) (show Value.int .i64 (Yd.chk ⟨d, ns, ls⟩) = .int .i64 0 by unfold Yd.chk; rw [hok]; rfl))
  have hn9 := hn.many
  have hl9 := hl.many
  have HN := Lib.hid hn
  have HL := Lib.hid hl
  have HM := Lib.hid hm
  have HK := Lib.hid hk
  have HW := Lib.hid hW0
  have HLen := Lib.hid (Yd.ok_len hok)
  have HMany := Lib.hid (Yd.ok_many hok)
  have HOK := Lib.hid hok
  clear hn hl hok hW0 hm hk
  have M2 := Lib.hid (fun W => by have := cal_Put none 0 [] s W ⟨Rd.nil _ _, Nat.zero_le _⟩ (fun _ => rfl); rw [putE_nil, List.length_nil] at this; exact this)
  have M3 := Lib.hid (fun W (h : Below w.heap.size w W) => set_Check ns.length bm cm ms W (HM.out.keep h).rd HM.out.len HM.out.fit)
  have M4 := Lib.hid (fun W (h : Below w.heap.size w W) => set_Check (3 * (ns.length : Int)) bk ck ks W (HK.out.keep h).rd HK.out.len HK.out.fit)
  generalize putV [] s = pv0 at *
  by_cases c1 : sChk ns.length ms = 0
  · by_cases c2 : sChk (3 * (ns.length : Int)) ks = 0
    · rw [c1] at M3
      rw [c2] at M4
      by_cases hs : s.may
      · rw [okIf_yes hs] at M2
        have hE : yPutE ⟨d, ns, ls⟩ ms ks s = if yTk 80 ⟨d, ns, ls⟩ ms ks s then 80 else if yTk 4 ⟨d, ns, ls⟩ ms ks s then 4 else 0 := by unfold yPutE; rw [if_pos HOK.out, if_pos c1, if_pos c2, if_pos hs]
        have T1 := Lib.hid (fun W (h : Below w.heap.size w W) => cals_twin d bn bl cn cl ns ls W (HN.out.keep h) (HL.out.keep h))
        have C12 := Lib.hid (And.intro c1 c2)
        have HE := Lib.hid hE
        clear hE c1 c2 hs
        (go_enter Tryz.func45, Tryz.ntmps45; go_upto_region 1 with fail; rw [← HW.out])
        (have y0 := F.out.y.cell 0 _ rfl; have y1 := F.out.y.cell 1 _ rfl; have y2 := F.out.y.cell 2 _ rfl; have y3 := F.out.y.cell 3 _ rfl; have y4 := F.out.y.cell 4 _ rfl)
        go_wp2_with fail
        (refine (M1.out _ F.out.b).mono ?_; rintro e w1 ⟨rfl, hb1⟩; have F := Lib.hid (F.out.keep hb1); have hzA := F.out.z; clear hb1 y0 y1 y2 y3 y4; have y3 := F.out.y.cell 3 _ rfl; have p0 := F.out.p.cell 0 _ rfl; have p1 := F.out.p.cell 1 _ rfl; have hYl := F.out.y.lt; have hPl := F.out.p.lt; go_upto_region 6 with fail; obtain ⟨W1, hW1⟩ : ∃ W1, W1 = (w1.alloc (.cells #[.int .i64 ns.length] 3)).alloc (.cells #[.int .i64 s.f, .int .i64 s.t, .int .i64 s.o] 68) := ⟨_, rfl⟩; rw [← hW1]; have hb1 : Below w1.heap.size w1 W1 := (by rw [hW1]; (repeat (first | (with_reducible exact Below.refl _ _) | (with_reducible assumption) | (with_reducible refine below_alloc ?_ _) | (with_reducible refine below_drewN ?_ _) | (with_reducible refine Below.drew ?_) | (with_reducible refine below_then ?_ (by with_reducible assumption)) | (with_reducible refine Below.setCell ?_ (by go_size) _)))); have F := Lib.hid (F.out.keep hb1); have NB := Lib.hid (show Blk W1 w1.heap.size 3 #[.int .i64 ns.length] by rw [hW1]; exact (Blk.new ..).alloc _); have SB := Lib.hid (show Blk W1 (w1.heap.size + 1) 68 #[.int .i64 s.f, .int .i64 s.t, .int .i64 s.o] by rw [hW1, show w1.heap.size + 1 = (w1.alloc (.cells #[.int .i64 ns.length] 3)).heap.size by simp]; exact Blk.new ..); clear hb1 hW1 y3 p0 p1 hYl hPl; have s0 := SB.out.cell 0 _ rfl; have s1 := SB.out.cell 1 _ rfl; have s2 := SB.out.cell 2 _ rfl; go_wp2_with fail; refine (M2.out _).mono ?_; rintro e w2 ⟨va, rfl, _, hb2⟩; have F := Lib.hid (F.out.keep hb2); have NB := Lib.hid (NB.out.below hb2); have SB := Lib.hid (SB.out.below hb2); have hzB := SB.out.lt; clear hb2 s0 s1 s2; have n0 := NB.out.cell 0 _ rfl; have m0 := F.out.m.cell 0 _ rfl; have k0 := F.out.k.cell 0 _ rfl; have M3 := Lib.hid (M3.out w2 F.out.b); have M4 := Lib.hid (M4.out w2 F.out.b))
        go_upto_region 12 with (first | ((with_reducible refine M3.out.mono ?_); rintro e w3 ⟨rfl, hw3⟩; have hw3 := hw3.symm; subst hw3) | ((with_reducible refine M4.out.mono ?_); rintro e w3 ⟨rfl, hw3⟩; have hw3 := hw3.symm; subst hw3))
        obtain ⟨W2, hW2⟩ : ∃ W2, W2 = (w2.alloc (.cells #[.bool false] 4)).alloc (.cells #[.bool false] 4) := ⟨_, rfl⟩
        rw [← hW2]
        have hb2 : Below w2.heap.size w2 W2 := by rw [hW2]; (repeat (first | (with_reducible exact Below.refl _ _) | (with_reducible assumption) | (with_reducible refine below_alloc ?_ _) | (with_reducible refine below_drewN ?_ _) | (with_reducible refine Below.drew ?_) | (with_reducible refine below_then ?_ (by with_reducible assumption)) | (with_reducible refine Below.setCell ?_ (by go_size) _)))
        have F := Lib.hid (F.out.keep hb2)
        have NB := Lib.hid (NB.out.below hb2)
        have SB := Lib.hid (SB.out.below hb2)
        have TB := Lib.hid (show Blk W2 w2.heap.size 4 #[.bool false] by rw [hW2]; exact (Blk.new ..).alloc _)
        have QB := Lib.hid (show Blk W2 (w2.heap.size + 1) 4 #[.bool false] by rw [hW2, show w2.heap.size + 1 = (w2.alloc (.cells #[.bool false] 4)).heap.size by simp]; exact Blk.new ..)
        have hS : w2.heap.size + 2 = W2.heap.size := by rw [hW2]; simp
        clear hb2 hW2 n0 m0 k0
        (have y0 := F.out.y.cell 0 _ rfl; have y1 := F.out.y.cell 1 _ rfl; have y2 := F.out.y.cell 2 _ rfl; have y3 := F.out.y.cell 3 _ rfl; have y4 := F.out.y.cell 4 _ rfl)
        go_wp2_with fail
        refine (T1.out _ F.out.b).mono ?_
        rintro e w3 ⟨u, v, rfl, hu, hv, hne, hb3⟩
        obtain ⟨ub, uc, rfl⟩ := hu.slice
        obtain ⟨vb, vc, rfl⟩ := hv.slice
        have F := Lib.hid (F.out.keep hb3)
        have NB := Lib.hid (NB.out.below hb3)
        have SB := Lib.hid (SB.out.below hb3)
        have TB := Lib.hid (TB.out.below hb3)
        have QB := Lib.hid (QB.out.below hb3)
        rw [← hS] at hu hv
        have HU := Lib.hid hu
        have HV := Lib.hid hv
        have HNE := Lib.hid hne
        have hz3 := hb3.size
        clear hu hv hne hb3 y0 y1 y2 y3 y4
        (have y0 := F.out.y.cell 0 _ rfl; have y1 := F.out.y.cell 1 _ rfl; have y2 := F.out.y.cell 2 _ rfl; have y3 := F.out.y.cell 3 _ rfl; have y4 := F.out.y.cell 4 _ rfl)
        have e0 := F.out.y.frozen 0
        have e1 := F.out.y.frozen 1
        have e2 := F.out.y.frozen 2
        have e3 := F.out.y.frozen 3
        have e4 := F.out.y.frozen 4
        go_upto_region 13 with fail
        obtain ⟨w4, hw4⟩ : ∃ w4, w4 = (((((w3.setCell ⟨w.heap.size, 0, none⟩ (.int .i64 d.x)).setCell ⟨w.heap.size, 1, none⟩ (.int .i64 d.y)).setCell ⟨w.heap.size, 2, none⟩ (.int .i64 d.z)).setCell ⟨w.heap.size, 3, none⟩ (.slice ub ns.length uc)).setCell ⟨w.heap.size, 4, none⟩ (.slice vb ls.length vc)) := ⟨_, rfl⟩
        rw [← hw4]
        have HP := Lib.hid (show PI w.heap.size (w.heap.size + 1) w1.heap.size (w.heap.size + 1 + 1) (w1.heap.size + 1) w2.heap.size (w2.heap.size + 1) (w.heap.size + 1 + 1 + 1 + 1) 26 33 3 33 68 4 4 26
            #[.int .i64 d.x, .int .i64 d.y, .int .i64 d.z, (.slice ub ns.length uc), (.slice vb ls.length vc)] #[.int .i64 0, .int .i64 0, .int .i64 0, .slice none 0 0, .slice none 0 0] bm bk cm ck ms ks ns.length s w (w2.heap.size + 2) (.slice ub ns.length uc) (.slice vb ls.length vc) ns ls 0 w4 by
          rw [hw4]
          exact ⟨⟨F.out.y.five', F.out.m.five (by omega), NB.out.five (by omega), F.out.k.five (by omega), SB.out.five (by omega), TB.out.five (by omega), QB.out.five (by omega), F.out.r.five (by omega)⟩,
            by rw [calTo_zero]; exact LO.five HU.out (by omega) (Nat.le_refl _), LO.five HV.out (by omega) (Nat.le_refl _), below_five F.out.b (Nat.le_refl _), by rw [sz_set, sz_set, sz_set, sz_set, sz_set]; omega⟩)
        have HEa := Lib.hid (put_each w.heap.size (w.heap.size + 1) w1.heap.size (w.heap.size + 1 + 1) (w1.heap.size + 1) w2.heap.size (w2.heap.size + 1) (w.heap.size + 1 + 1 + 1 + 1) 26 33 3 33 68 4 4 26
            #[.int .i64 d.x, .int .i64 d.y, .int .i64 d.z, (.slice ub ns.length uc), (.slice vb ls.length vc)] #[.int .i64 0, .int .i64 0, .int .i64 0, .slice none 0 0, .slice none 0 0] bm bk cm ck ms ks ns.length s d ub vb uc vc (w2.heap.size + 2) ns ls w w4 rfl ⟨⟨by omega, by omega, by omega⟩, ⟨by omega, by omega, by omega⟩, ⟨by omega, by omega, by omega⟩, ⟨by omega, by omega, by omega⟩, ⟨by omega, by omega, by omega⟩, ⟨by omega, by omega, by omega⟩, ⟨by omega, by omega, by omega⟩⟩ ⟨by omega, by omega, by omega⟩
            HM.out HK.out (by have := HMany.out.1; unfold nMay at this; omega) (by omega) C12.out.1 C12.out.2 ⟨hn9, HN.out.small⟩ ⟨hl9, HL.out.small⟩ HNE.out HP.out)
        have hSw : w.heap.size ≤ w2.heap.size + 2 := by omega
        have hYS : w.heap.size < w2.heap.size + 2 ∧ w.heap.size + 4 < w2.heap.size + 2 := by omega
        clear hw4 HP F NB SB TB QB HU HV HNE hz3 y0 y1 y2 y3 y4 e0 e1 e2 e3 e4 hS hzA hzB
        go_wp2_with fail
        refine HEa.out.mono ?_
        rintro e w5 ⟨rfl, hB, hu5, hv5, hb5, hz5⟩
        have HB := Lib.hid hB
        have HU := Lib.hid hu5
        have HV := Lib.hid hv5
        have HBel := Lib.hid hb5
        have t0 : w5.cell? ⟨w2.heap.size, 0, none⟩ = some (.bool (yTk 80 ⟨d, ns, ls⟩ ms ks s)) := hB.t.cell 0 _ rfl
        have m0 : w5.cell? ⟨w2.heap.size + 1, 0, none⟩ = some (.bool (yTk 4 ⟨d, ns, ls⟩ ms ks s)) := hB.q.cell 0 _ rfl
        have y0 := hB.y.cell 0 _ rfl
        have y1 := hB.y.cell 1 _ rfl
        have y2 := hB.y.cell 2 _ rfl
        have y3 := hB.y.cell 3 _ rfl
        have y4 := hB.y.cell 4 _ rfl
        have q0 := hB.r.cell 0 _ rfl
        have q1 := hB.r.cell 1 _ rfl
        have q2 := hB.r.cell 2 _ rfl
        have q3 := hB.r.cell 3 _ rfl
        have q4 := hB.r.cell 4 _ rfl
        have g0 := hB.r.frozen 0
        have g1 := hB.r.frozen 1
        have g2 := hB.r.frozen 2
        have g3 := hB.r.frozen 3
        have g4 := hB.r.frozen 4
        clear hB hu5 hv5 hb5 hz5 HEa
        cases h80 : yTk 80 ⟨d, ns, ls⟩ ms ks s with
        | true =>
          have hE : yPutE ⟨d, ns, ls⟩ ms ks s = 80 := by rw [HE.out, if_pos h80]
          have hV : yPutV ⟨d, ns, ls⟩ ms ks s = Yd.zero := by unfold yPutV; rw [hE]; rfl
          have HEV := Lib.hid (And.intro hE hV)
          rw [h80] at t0
          clear hE hV h80
          go_wp2_with fail
          (have R0 := (HB.out.r).set 0 (.int .i64 0); have R1 := R0.set 1 (.int .i64 0); have R2 := R1.set 2 (.int .i64 0); have R3 := R2.set 3 (.slice none 0 0); have R4 := R3.set 4 (.slice none 0 0); have r0 := R0.cell 0 (.int .i64 0) rfl; have r1 := R1.cell 1 (.int .i64 0) rfl; have r2 := R2.cell 2 (.int .i64 0) rfl; have r3 := R3.cell 3 (.slice none 0 0) rfl; have r4 := R4.cell 4 (.slice none 0 0) rfl; clear R0 R1 R2 R3 R4; refine bodyPost_ret (by simp [results, Tryz.results45, go_sem, r0, r1, r2, r3, r4]; try rfl) rfl ?_)
          rw [HEV.out.1, HEV.out.2]
          exact RYE.zero _ _ _ (by have hbF := HBel.out; (repeat (first | (with_reducible exact Below.refl _ _) | (with_reducible assumption) | (with_reducible refine below_alloc ?_ _) | (with_reducible refine below_drewN ?_ _) | (with_reducible refine Below.drew ?_) | (with_reducible refine below_then ?_ (by with_reducible assumption)) | (with_reducible refine Below.setCell ?_ (by go_size) _))))
        | false =>
          rw [h80] at t0
          cases h4 : yTk 4 ⟨d, ns, ls⟩ ms ks s with
          | true =>
            have hE : yPutE ⟨d, ns, ls⟩ ms ks s = 4 := by rw [HE.out, if_neg (by rw [h80]; decide), if_pos h4]
            have hV : yPutV ⟨d, ns, ls⟩ ms ks s = Yd.zero := by unfold yPutV; rw [hE]; rfl
            have HEV := Lib.hid (And.intro hE hV)
            rw [h4] at m0
            clear hE hV h80 h4
            go_wp2_with fail
            (have R0 := (HB.out.r).set 0 (.int .i64 0); have R1 := R0.set 1 (.int .i64 0); have R2 := R1.set 2 (.int .i64 0); have R3 := R2.set 3 (.slice none 0 0); have R4 := R3.set 4 (.slice none 0 0); have r0 := R0.cell 0 (.int .i64 0) rfl; have r1 := R1.cell 1 (.int .i64 0) rfl; have r2 := R2.cell 2 (.int .i64 0) rfl; have r3 := R3.cell 3 (.slice none 0 0) rfl; have r4 := R4.cell 4 (.slice none 0 0) rfl; clear R0 R1 R2 R3 R4; refine bodyPost_ret (by simp [results, Tryz.results45, go_sem, r0, r1, r2, r3, r4]; try rfl) rfl ?_)
            rw [HEV.out.1, HEV.out.2]
            exact RYE.zero _ _ _ (by have hbF := HBel.out; (repeat (first | (with_reducible exact Below.refl _ _) | (with_reducible assumption) | (with_reducible refine below_alloc ?_ _) | (with_reducible refine below_drewN ?_ _) | (with_reducible refine Below.drew ?_) | (with_reducible refine below_then ?_ (by with_reducible assumption)) | (with_reducible refine Below.setCell ?_ (by go_size) _))))
          | false =>
            have hE : yPutE ⟨d, ns, ls⟩ ms ks s = 0 := by rw [HE.out, if_neg (by rw [h80]; decide), if_neg (by rw [h4]; decide)]
            have hV : yPutV ⟨d, ns, ls⟩ ms ks s = ⟨d, calTo ms s ns ns.length, calTo ks s ls ls.length⟩ := by unfold yPutV; rw [if_pos hE]
            have HEV := Lib.hid (And.intro hE hV)
            rw [h4] at m0
            clear hE hV h80 h4
            go_wp2_with fail
            (have R0 := (HB.out.r).set 0 (.int .i64 d.x); have R1 := R0.set 1 (.int .i64 d.y); have R2 := R1.set 2 (.int .i64 d.z); have R3 := R2.set 3 (.slice ub ns.length uc); have R4 := R3.set 4 (.slice vb ls.length vc); have r0 := R0.cell 0 (.int .i64 d.x) rfl; have r1 := R1.cell 1 (.int .i64 d.y) rfl; have r2 := R2.cell 2 (.int .i64 d.z) rfl; have r3 := R3.cell 3 (.slice ub ns.length uc) rfl; have r4 := R4.cell 4 (.slice vb ls.length vc) rfl; clear R0 R1 R2 R3 R4; refine bodyPost_ret (by simp [results, Tryz.results45, go_sem, r0, r1, r2, r3, r4]; try rfl) rfl ?_)
            rw [HEV.out.1, HEV.out.2]
            exact ⟨_, _, rfl, LO.five HU.out (by omega) hSw, LO.five HV.out (by omega) hSw, by have hbF := HBel.out; (repeat (first | (with_reducible exact Below.refl _ _) | (with_reducible assumption) | (with_reducible refine below_alloc ?_ _) | (with_reducible refine below_drewN ?_ _) | (with_reducible refine Below.drew ?_) | (with_reducible refine below_then ?_ (by with_reducible assumption)) | (with_reducible refine Below.setCell ?_ (by go_size) _)))⟩
      · have hE : yPutE ⟨d, ns, ls⟩ ms ks s = 2 := by unfold yPutE; rw [if_pos HOK.out, if_pos c1, if_pos c2, if_neg hs]
        have hV : yPutV ⟨d, ns, ls⟩ ms ks s = Yd.zero := by unfold yPutV; rw [hE]; rfl
        rw [hE, hV]
        rw [okIf_no hs] at M2
        clear hE hV c1 c2 hs
        (go_enter Tryz.func45, Tryz.ntmps45; go_upto_region 1 with fail; rw [← HW.out])
        (have y0 := F.out.y.cell 0 _ rfl; have y1 := F.out.y.cell 1 _ rfl; have y2 := F.out.y.cell 2 _ rfl; have y3 := F.out.y.cell 3 _ rfl; have y4 := F.out.y.cell 4 _ rfl)
        go_wp2_with fail
        (refine (M1.out _ F.out.b).mono ?_; rintro e w1 ⟨rfl, hb1⟩; have F := Lib.hid (F.out.keep hb1); have hzA := F.out.z; clear hb1 y0 y1 y2 y3 y4; have y3 := F.out.y.cell 3 _ rfl; have p0 := F.out.p.cell 0 _ rfl; have p1 := F.out.p.cell 1 _ rfl; have hYl := F.out.y.lt; have hPl := F.out.p.lt; go_upto_region 6 with fail; obtain ⟨W1, hW1⟩ : ∃ W1, W1 = (w1.alloc (.cells #[.int .i64 ns.length] 3)).alloc (.cells #[.int .i64 s.f, .int .i64 s.t, .int .i64 s.o] 68) := ⟨_, rfl⟩; rw [← hW1]; have hb1 : Below w1.heap.size w1 W1 := (by rw [hW1]; (repeat (first | (with_reducible exact Below.refl _ _) | (with_reducible assumption) | (with_reducible refine below_alloc ?_ _) | (with_reducible refine below_drewN ?_ _) | (with_reducible refine Below.drew ?_) | (with_reducible refine below_then ?_ (by with_reducible assumption)) | (with_reducible refine Below.setCell ?_ (by go_size) _)))); have F := Lib.hid (F.out.keep hb1); have NB := Lib.hid (show Blk W1 w1.heap.size 3 #[.int .i64 ns.length] by rw [hW1]; exact (Blk.new ..).alloc _); have SB := Lib.hid (show Blk W1 (w1.heap.size + 1) 68 #[.int .i64 s.f, .int .i64 s.t, .int .i64 s.o] by rw [hW1, show w1.heap.size + 1 = (w1.alloc (.cells #[.int .i64 ns.length] 3)).heap.size by simp]; exact Blk.new ..); clear hb1 hW1 y3 p0 p1 hYl hPl; have s0 := SB.out.cell 0 _ rfl; have s1 := SB.out.cell 1 _ rfl; have s2 := SB.out.cell 2 _ rfl; go_wp2_with fail; refine (M2.out _).mono ?_; rintro e w2 ⟨va, rfl, _, hb2⟩; have F := Lib.hid (F.out.keep hb2); have NB := Lib.hid (NB.out.below hb2); have SB := Lib.hid (SB.out.below hb2); have hzB := SB.out.lt; clear hb2 s0 s1 s2; have n0 := NB.out.cell 0 _ rfl; have m0 := F.out.m.cell 0 _ rfl; have k0 := F.out.k.cell 0 _ rfl; have M3 := Lib.hid (M3.out w2 F.out.b); have M4 := Lib.hid (M4.out w2 F.out.b))
        (have q0 := F.out.r.cell 0 _ rfl; have q1 := F.out.r.cell 1 _ rfl; have q2 := F.out.r.cell 2 _ rfl; have q3 := F.out.r.cell 3 _ rfl; have q4 := F.out.r.cell 4 _ rfl; have g0 := F.out.r.frozen 0; have g1 := F.out.r.frozen 1; have g2 := F.out.r.frozen 2; have g3 := F.out.r.frozen 3; have g4 := F.out.r.frozen 4)
        go_wp2_with (first | ((with_reducible refine M3.out.mono ?_); rintro e w3 ⟨rfl, hw3⟩; have hw3 := hw3.symm; subst hw3) | ((with_reducible refine M4.out.mono ?_); rintro e w3 ⟨rfl, hw3⟩; have hw3 := hw3.symm; subst hw3))
        (have R0 := (F.out.r).set 0 (.int .i64 0); have R1 := R0.set 1 (.int .i64 0); have R2 := R1.set 2 (.int .i64 0); have R3 := R2.set 3 (.slice none 0 0); have R4 := R3.set 4 (.slice none 0 0); have r0 := R0.cell 0 (.int .i64 0) rfl; have r1 := R1.cell 1 (.int .i64 0) rfl; have r2 := R2.cell 2 (.int .i64 0) rfl; have r3 := R3.cell 3 (.slice none 0 0) rfl; have r4 := R4.cell 4 (.slice none 0 0) rfl; clear R0 R1 R2 R3 R4; refine bodyPost_ret (by simp [results, Tryz.results45, go_sem, r0, r1, r2, r3, r4]; try rfl) rfl ?_)
        exact RYE.zero _ _ _ (by have hbF := F.out.b; (repeat (first | (with_reducible exact Below.refl _ _) | (with_reducible assumption) | (with_reducible refine below_alloc ?_ _) | (with_reducible refine below_drewN ?_ _) | (with_reducible refine Below.drew ?_) | (with_reducible refine below_then ?_ (by with_reducible assumption)) | (with_reducible refine Below.setCell ?_ (by go_size) _))))
    · have hE : yPutE ⟨d, ns, ls⟩ ms ks s = 8 := by unfold yPutE; rw [if_pos HOK.out, if_pos c1, if_neg c2]
      have hV : yPutV ⟨d, ns, ls⟩ ms ks s = Yd.zero := by unfold yPutV; rw [hE]; rfl
      rw [hE, hV]
      rw [c1] at M3
      have c1' : (sChk (3 * (ns.length : Int)) ks == 0) = false := by simpa using c2
      have c1'' : (sChk (3 * (ns.length : Int)) ks != 0) = true := by simpa using c2
      generalize sChk (3 * (ns.length : Int)) ks = x1 at *
      clear hE hV c1 c2
      (go_enter Tryz.func45, Tryz.ntmps45; go_upto_region 1 with fail; rw [← HW.out])
      (have y0 := F.out.y.cell 0 _ rfl; have y1 := F.out.y.cell 1 _ rfl; have y2 := F.out.y.cell 2 _ rfl; have y3 := F.out.y.cell 3 _ rfl; have y4 := F.out.y.cell 4 _ rfl)
      go_wp2_with fail
      (refine (M1.out _ F.out.b).mono ?_; rintro e w1 ⟨rfl, hb1⟩; have F := Lib.hid (F.out.keep hb1); have hzA := F.out.z; clear hb1 y0 y1 y2 y3 y4; have y3 := F.out.y.cell 3 _ rfl; have p0 := F.out.p.cell 0 _ rfl; have p1 := F.out.p.cell 1 _ rfl; have hYl := F.out.y.lt; have hPl := F.out.p.lt; go_upto_region 6 with fail; obtain ⟨W1, hW1⟩ : ∃ W1, W1 = (w1.alloc (.cells #[.int .i64 ns.length] 3)).alloc (.cells #[.int .i64 s.f, .int .i64 s.t, .int .i64 s.o] 68) := ⟨_, rfl⟩; rw [← hW1]; have hb1 : Below w1.heap.size w1 W1 := (by rw [hW1]; (repeat (first | (with_reducible exact Below.refl _ _) | (with_reducible assumption) | (with_reducible refine below_alloc ?_ _) | (with_reducible refine below_drewN ?_ _) | (with_reducible refine Below.drew ?_) | (with_reducible refine below_then ?_ (by with_reducible assumption)) | (with_reducible refine Below.setCell ?_ (by go_size) _)))); have F := Lib.hid (F.out.keep hb1); have NB := Lib.hid (show Blk W1 w1.heap.size 3 #[.int .i64 ns.length] by rw [hW1]; exact (Blk.new ..).alloc _); have SB := Lib.hid (show Blk W1 (w1.heap.size + 1) 68 #[.int .i64 s.f, .int .i64 s.t, .int .i64 s.o] by rw [hW1, show w1.heap.size + 1 = (w1.alloc (.cells #[.int .i64 ns.length] 3)).heap.size by simp]; exact Blk.new ..); clear hb1 hW1 y3 p0 p1 hYl hPl; have s0 := SB.out.cell 0 _ rfl; have s1 := SB.out.cell 1 _ rfl; have s2 := SB.out.cell 2 _ rfl; go_wp2_with fail; refine (M2.out _).mono ?_; rintro e w2 ⟨va, rfl, _, hb2⟩; have F := Lib.hid (F.out.keep hb2); have NB := Lib.hid (NB.out.below hb2); have SB := Lib.hid (SB.out.below hb2); have hzB := SB.out.lt; clear hb2 s0 s1 s2; have n0 := NB.out.cell 0 _ rfl; have m0 := F.out.m.cell 0 _ rfl; have k0 := F.out.k.cell 0 _ rfl; have M3 := Lib.hid (M3.out w2 F.out.b); have M4 := Lib.hid (M4.out w2 F.out.b))
      (have q0 := F.out.r.cell 0 _ rfl; have q1 := F.out.r.cell 1 _ rfl; have q2 := F.out.r.cell 2 _ rfl; have q3 := F.out.r.cell 3 _ rfl; have q4 := F.out.r.cell 4 _ rfl; have g0 := F.out.r.frozen 0; have g1 := F.out.r.frozen 1; have g2 := F.out.r.frozen 2; have g3 := F.out.r.frozen 3; have g4 := F.out.r.frozen 4)
      go_wp2_with (first | ((with_reducible refine M3.out.mono ?_); rintro e w3 ⟨rfl, hw3⟩; have hw3 := hw3.symm; subst hw3) | ((with_reducible refine M4.out.mono ?_); rintro e w3 ⟨rfl, hw3⟩; have hw3 := hw3.symm; subst hw3))
      (have R0 := (F.out.r).set 0 (.int .i64 0); have R1 := R0.set 1 (.int .i64 0); have R2 := R1.set 2 (.int .i64 0); have R3 := R2.set 3 (.slice none 0 0); have R4 := R3.set 4 (.slice none 0 0); have r0 := R0.cell 0 (.int .i64 0) rfl; have r1 := R1.cell 1 (.int .i64 0) rfl; have r2 := R2.cell 2 (.int .i64 0) rfl; have r3 := R3.cell 3 (.slice none 0 0) rfl; have r4 := R4.cell 4 (.slice none 0 0) rfl; clear R0 R1 R2 R3 R4; refine bodyPost_ret (by simp [results, Tryz.results45, go_sem, r0, r1, r2, r3, r4]; try rfl) rfl ?_)
      exact RYE.zero _ _ _ (by have hbF := F.out.b; (repeat (first | (with_reducible exact Below.refl _ _) | (with_reducible assumption) | (with_reducible refine below_alloc ?_ _) | (with_reducible refine below_drewN ?_ _) | (with_reducible refine Below.drew ?_) | (with_reducible refine below_then ?_ (by with_reducible assumption)) | (with_reducible refine Below.setCell ?_ (by go_size) _))))
  · have hE : yPutE ⟨d, ns, ls⟩ ms ks s = 8 := by unfold yPutE; rw [if_pos HOK.out, if_neg c1]
    have hV : yPutV ⟨d, ns, ls⟩ ms ks s = Yd.zero := by unfold yPutV; rw [hE]; rfl
    rw [hE, hV]
    have c1' : (sChk ns.length ms == 0) = false := by simpa using c1
    have c1'' : (sChk ns.length ms != 0) = true := by simpa using c1
    generalize sChk ns.length ms = x1 at *
    clear hE hV c1
    (go_enter Tryz.func45, Tryz.ntmps45; go_upto_region 1 with fail; rw [← HW.out])
    (have y0 := F.out.y.cell 0 _ rfl; have y1 := F.out.y.cell 1 _ rfl; have y2 := F.out.y.cell 2 _ rfl; have y3 := F.out.y.cell 3 _ rfl; have y4 := F.out.y.cell 4 _ rfl)
    go_wp2_with fail
    (refine (M1.out _ F.out.b).mono ?_; rintro e w1 ⟨rfl, hb1⟩; have F := Lib.hid (F.out.keep hb1); have hzA := F.out.z; clear hb1 y0 y1 y2 y3 y4; have y3 := F.out.y.cell 3 _ rfl; have p0 := F.out.p.cell 0 _ rfl; have p1 := F.out.p.cell 1 _ rfl; have hYl := F.out.y.lt; have hPl := F.out.p.lt; go_upto_region 6 with fail; obtain ⟨W1, hW1⟩ : ∃ W1, W1 = (w1.alloc (.cells #[.int .i64 ns.length] 3)).alloc (.cells #[.int .i64 s.f, .int .i64 s.t, .int .i64 s.o] 68) := ⟨_, rfl⟩; rw [← hW1]; have hb1 : Below w1.heap.size w1 W1 := (by rw [hW1]; (repeat (first | (with_reducible exact Below.refl _ _) | (with_reducible assumption) | (with_reducible refine below_alloc ?_ _) | (with_reducible refine below_drewN ?_ _) | (with_reducible refine Below.drew ?_) | (with_reducible refine below_then ?_ (by with_reducible assumption)) | (with_reducible refine Below.setCell ?_ (by go_size) _)))); have F := Lib.hid (F.out.keep hb1); have NB := Lib.hid (show Blk W1 w1.heap.size 3 #[.int .i64 ns.length] by rw [hW1]; exact (Blk.new ..).alloc _); have SB := Lib.hid (show Blk W1 (w1.heap.size + 1) 68 #[.int .i64 s.f, .int .i64 s.t, .int .i64 s.o] by rw [hW1, show w1.heap.size + 1 = (w1.alloc (.cells #[.int .i64 ns.length] 3)).heap.size by simp]; exact Blk.new ..); clear hb1 hW1 y3 p0 p1 hYl hPl; have s0 := SB.out.cell 0 _ rfl; have s1 := SB.out.cell 1 _ rfl; have s2 := SB.out.cell 2 _ rfl; go_wp2_with fail; refine (M2.out _).mono ?_; rintro e w2 ⟨va, rfl, _, hb2⟩; have F := Lib.hid (F.out.keep hb2); have NB := Lib.hid (NB.out.below hb2); have SB := Lib.hid (SB.out.below hb2); have hzB := SB.out.lt; clear hb2 s0 s1 s2; have n0 := NB.out.cell 0 _ rfl; have m0 := F.out.m.cell 0 _ rfl; have k0 := F.out.k.cell 0 _ rfl; have M3 := Lib.hid (M3.out w2 F.out.b); have M4 := Lib.hid (M4.out w2 F.out.b))
    (have q0 := F.out.r.cell 0 _ rfl; have q1 := F.out.r.cell 1 _ rfl; have q2 := F.out.r.cell 2 _ rfl; have q3 := F.out.r.cell 3 _ rfl; have q4 := F.out.r.cell 4 _ rfl; have g0 := F.out.r.frozen 0; have g1 := F.out.r.frozen 1; have g2 := F.out.r.frozen 2; have g3 := F.out.r.frozen 3; have g4 := F.out.r.frozen 4)
    go_wp2_with (first | ((with_reducible refine M3.out.mono ?_); rintro e w3 ⟨rfl, hw3⟩; have hw3 := hw3.symm; subst hw3) | ((with_reducible refine M4.out.mono ?_); rintro e w3 ⟨rfl, hw3⟩; have hw3 := hw3.symm; subst hw3))
    (have R0 := (F.out.r).set 0 (.int .i64 0); have R1 := R0.set 1 (.int .i64 0); have R2 := R1.set 2 (.int .i64 0); have R3 := R2.set 3 (.slice none 0 0); have R4 := R3.set 4 (.slice none 0 0); have r0 := R0.cell 0 (.int .i64 0) rfl; have r1 := R1.cell 1 (.int .i64 0) rfl; have r2 := R2.cell 2 (.int .i64 0) rfl; have r3 := R3.cell 3 (.slice none 0 0) rfl; have r4 := R4.cell 4 (.slice none 0 0) rfl; clear R0 R1 R2 R3 R4; refine bodyPost_ret (by simp [results, Tryz.results45, go_sem, r0, r1, r2, r3, r4]; try rfl) rfl ?_)
    exact RYE.zero _ _ _ (by have hbF := F.out.b; (repeat (first | (with_reducible exact Below.refl _ _) | (with_reducible assumption) | (with_reducible refine below_alloc ?_ _) | (with_reducible refine below_drewN ?_ _) | (with_reducible refine Below.drew ?_) | (with_reducible refine below_then ?_ (by with_reducible assumption)) | (with_reducible refine Below.setCell ?_ (by go_size) _))))
end

section
open Go.RowKit Go.Shelf

def newV (d : V3) : Yd := if d.may then ⟨d, List.replicate d.n.toNat [], List.replicate (3 * d.n.toNat) []⟩ else Yd.zero
theorem LO.made (W : World) (B n : Nat) (hB : B ≤ W.heap.size) (hn : n ≤ 1000000) : LO (W.alloc (.cells (madeCells #[.slice none 0 0] n) 65)) B (.slice (some ⟨W.heap.size, 0, none⟩) n n) (List.replicate n []) := by
  have hs : (madeCells #[Value.slice none 0 0] n).size = n := by
    have := congrArg List.length (toList_madeCells_one (Value.slice none 0 0) n)
    simpa using this
  refine ⟨List.replicate n (.slice none 0 0), ?_, fun i c hc => ?_⟩
  · rw [List.length_replicate]
    refine ⟨by simp, .inr ⟨W.heap.size, n, madeCells #[.slice none 0 0] n, rfl, hB, World.alloc_heap_new W _, Nat.le_refl _, by unfold maxLen; omega, by rw [hs]; omega, ?_⟩⟩
    rw [toList_madeCells_one, Nat.mul_one, List.take_of_length_le (by simp)]
  · have hi := (List.getElem?_eq_some_iff.1 hc).1
    rw [List.length_replicate] at hi
    have e : c = [] := by
      have := List.mem_of_getElem? hc
      exact (List.mem_replicate.1 this).2
    subst e
    exact ⟨.slice none 0 0, by simp [hi], World.ownsRow_nil _ _ _ _⟩
set_option maxRecDepth 100000 in set_option maxHeartbeats 4000000 in
theorem cals_New (d : V3) (w : World) : Calls Tryz.prog 44 #[.agg #[.int .i64 d.x, .int .i64 d.y, .int .i64 d.z]] w (RYE w (newV d) d.err) := by
  obtain ⟨W0, hW0⟩ : ∃ W0, W0 = (w.alloc (.cells #[.int .i64 d.x, .int .i64 d.y, .int .i64 d.z] 23)).alloc (.cells #[.int .i64 0, .int .i64 0, .int .i64 0, .slice none 0 0, .slice none 0 0] 26) := ⟨_, rfl⟩
  have DB := Lib.hid (show Blk W0 w.heap.size 23 #[.int .i64 d.x, .int .i64 d.y, .int .i64 d.z] by rw [hW0]; exact (Blk.new ..).alloc _)
  have RB := Lib.hid (show Blk W0 (w.heap.size + 1) 26 #[.int .i64 0, .int .i64 0, .int .i64 0, .slice none 0 0, .slice none 0 0] by rw [hW0, show w.heap.size + 1 = (w.alloc (.cells #[.int .i64 d.x, .int .i64 d.y, .int .i64 d.z] 23)).heap.size by simp]; exact Blk.new ..)
  have HB := Lib.hid (show Below w.heap.size w W0 by rw [hW0]; (repeat (first | (with_reducible exact Below.refl _ _) | (with_reducible assumption) | (with_reducible refine below_alloc ?_ _) | (with_reducible refine below_drewN ?_ _) | (with_reducible refine Below.drew ?_) | (with_reducible refine below_then ?_ (by with_reducible assumption)) | (with_reducible refine Below.setCell ?_ (by go_size) _))))
  have M := Lib.hid (fun W => pos_Many d W)
  have HW := Lib.hid hW0
  clear hW0
  by_cases h : d.may
  · obtain ⟨n, hn⟩ : ∃ n, n = d.n.toNat := ⟨_, rfl⟩
    have hnl := V3.n_le h
    have hmn : d.many = (n : Int) := by rw [V3.many_ok h]; omega
    have hV : newV d = ⟨d, List.replicate n [], List.replicate (3 * n) []⟩ := by unfold newV; rw [if_pos h, hn]
    rw [hV, V3.err_ok h]
    rw [hmn, V3.err_ok h] at M
    have hn1 : n ≤ 4096 := by omega
    have hmk1 : ∀ W : World, (Instr.makeSlice 24 (.int .i64 (n : Int)) (.int .i64 (n : Int))).run Tryz.prog W = .ok (.slice (some ⟨W.heap.size, 0, none⟩) n n) (W.alloc (.cells (madeCells #[.slice none 0 0] n) 65)) :=
      fun W => run_make_row' (P := Tryz.prog) 24 65 (.slice none 0 0) 24 Tryz.underlying24 infoCal rfl .i64 .i64 n (by omega) (by omega) W
    have hmk2 : ∀ W : World, (Instr.makeSlice 24 (.int .i64 (3 * (n : Int))) (.int .i64 (3 * (n : Int)))).run Tryz.prog W = .ok (.slice (some ⟨W.heap.size, 0, none⟩) (3 * n) (3 * n)) (W.alloc (.cells (madeCells #[.slice none 0 0] (3 * n)) 65)) := by
      intro W
      have := run_make_row' (P := Tryz.prog) 24 65 (.slice none 0 0) 24 Tryz.underlying24 infoCal rfl .i64 .i64 (3 * n) (by omega) (by omega) W
      rw [show ((3 * n : Nat) : Int) = 3 * (n : Int) by omega] at this
      exact this
    clear h hnl hmn hV hn
    go_enter Tryz.func44, Tryz.ntmps44
    go_upto_region 1 with fail
    rw [← HW.out]
    have d0 := DB.out.cell 0 _ rfl
    have d1 := DB.out.cell 1 _ rfl
    have d2 := DB.out.cell 2 _ rfl
    go_wp2_with fail
    refine (M.out _).mono ?_
    rintro e w1 ⟨rfl, hb1⟩
    have DB := Lib.hid (DB.out.below hb1)
    have RB := Lib.hid (RB.out.below hb1)
    have HB := Lib.hid (below_then HB.out hb1)
    clear hb1 d0 d1 d2
    have d0 := DB.out.cell 0 _ rfl
    have d1 := DB.out.cell 1 _ rfl
    have d2 := DB.out.cell 2 _ rfl
    have hDl := DB.out.lt
    have hRl := RB.out.lt
    (have q0 := RB.out.cell 0 _ rfl; have q1 := RB.out.cell 1 _ rfl; have q2 := RB.out.cell 2 _ rfl; have q3 := RB.out.cell 3 _ rfl; have q4 := RB.out.cell 4 _ rfl; have g0 := RB.out.frozen 0; have g1 := RB.out.frozen 1; have g2 := RB.out.frozen 2; have g3 := RB.out.frozen 3; have g4 := RB.out.frozen 4)
    go_wp2_with fail
    go_region
    · obtain ⟨W6, hW6⟩ : ∃ W6, W6 = (((((w1.setCell ⟨w.heap.size + 1, 0, none⟩ (.int .i64 d.x)).setCell ⟨w.heap.size + 1, 1, none⟩ (.int .i64 d.y)).setCell ⟨w.heap.size + 1, 2, none⟩ (.int .i64 d.z)).setCell ⟨w.heap.size + 1, 3, none⟩ (.slice (some ⟨w1.heap.size, 0, none⟩) n n)).setCell ⟨w.heap.size + 1, 4, none⟩ (.slice (some ⟨w1.heap.size + 1, 0, none⟩) (3 * n) (3 * n))) := ⟨_, rfl⟩
      rw [← hW6]
      have hsz : W6.heap.size = w1.heap.size := by rw [hW6, sz_set, sz_set, sz_set, sz_set, sz_set]
      have RB6 : Blk W6 (w.heap.size + 1) 26 #[.int .i64 d.x, .int .i64 d.y, .int .i64 d.z, (.slice (some ⟨w1.heap.size, 0, none⟩) n n), (.slice (some ⟨w1.heap.size + 1, 0, none⟩) (3 * n) (3 * n))] := by rw [hW6]; exact RB.out.five'
      have HB6 : Below w.heap.size w W6 := by rw [hW6]; exact below_five HB.out (Nat.le_succ _)
      have hbz := HB.out.size
      obtain ⟨WF, hWF⟩ : ∃ WF, WF = ((W6.alloc (.cells (madeCells #[.slice none 0 0] n) 65)).alloc (.cells (madeCells #[.slice none 0 0] (3 * n)) 65)).drew := ⟨_, rfl⟩
      rw [← hWF]
      have RF : Blk WF (w.heap.size + 1) 26 #[.int .i64 d.x, .int .i64 d.y, .int .i64 d.z, (.slice (some ⟨w1.heap.size, 0, none⟩) n n), (.slice (some ⟨w1.heap.size + 1, 0, none⟩) (3 * n) (3 * n))] := by rw [hWF]; exact (RB6.alloc _).alloc _
      have L1 : LO WF w.heap.size (.slice (some ⟨w1.heap.size, 0, none⟩) n n) (List.replicate n []) := by
        have := LO.made W6 w.heap.size n (by omega) (by omega)
        rw [hsz] at this
        rw [hWF]
        exact this.keep (by (repeat (first | (with_reducible exact Below.refl _ _) | (with_reducible assumption) | (with_reducible refine below_alloc ?_ _) | (with_reducible refine below_drewN ?_ _) | (with_reducible refine Below.drew ?_) | (with_reducible refine below_then ?_ (by with_reducible assumption)) | (with_reducible refine Below.setCell ?_ (by go_size) _))))
      have L2 : LO WF w.heap.size (.slice (some ⟨w1.heap.size + 1, 0, none⟩) (3 * n) (3 * n)) (List.replicate (3 * n) []) := by
        have := LO.made (W6.alloc (.cells (madeCells #[.slice none 0 0] n) 65)) w.heap.size (3 * n) (by simp; omega) (by omega)
        rw [show (W6.alloc (.cells (madeCells #[.slice none 0 0] n) 65)).heap.size = w1.heap.size + 1 by simp [hsz]] at this
        rw [hWF]
        exact this.keep (by (repeat (first | (with_reducible exact Below.refl _ _) | (with_reducible assumption) | (with_reducible refine below_alloc ?_ _) | (with_reducible refine below_drewN ?_ _) | (with_reducible refine Below.drew ?_) | (with_reducible refine below_then ?_ (by with_reducible assumption)) | (with_reducible refine Below.setCell ?_ (by go_size) _))))
      have HBF : Below w.heap.size w WF := by rw [hWF]; (repeat (first | (with_reducible exact Below.refl _ _) | (with_reducible assumption) | (with_reducible refine below_alloc ?_ _) | (with_reducible refine below_drewN ?_ _) | (with_reducible refine Below.drew ?_) | (with_reducible refine below_then ?_ (by with_reducible assumption)) | (with_reducible refine Below.setCell ?_ (by go_size) _)))
      have r0 := RF.cell 0 (.int .i64 d.x) rfl
      have r1 := RF.cell 1 (.int .i64 d.y) rfl
      have r2 := RF.cell 2 (.int .i64 d.z) rfl
      have r3 := RF.cell 3 (.slice (some ⟨w1.heap.size, 0, none⟩) n n) rfl
      have r4 := RF.cell 4 (.slice (some ⟨w1.heap.size + 1, 0, none⟩) (3 * n) (3 * n)) rfl
      go_wp2_with fail
      refine bodyPost_ret (by simp [results, Tryz.results44, go_sem, r0, r1, r2, r3, r4]; try rfl) rfl ?_
      exact ⟨_, _, rfl, L1, L2, HBF⟩
    · obtain ⟨W6, hW6⟩ : ∃ W6, W6 = (((((w1.setCell ⟨w.heap.size + 1, 0, none⟩ (.int .i64 d.x)).setCell ⟨w.heap.size + 1, 1, none⟩ (.int .i64 d.y)).setCell ⟨w.heap.size + 1, 2, none⟩ (.int .i64 d.z)).setCell ⟨w.heap.size + 1, 3, none⟩ (.slice (some ⟨w1.heap.size + 1, 0, none⟩) n n)).setCell ⟨w.heap.size + 1, 4, none⟩ (.slice (some ⟨w1.heap.size, 0, none⟩) (3 * n) (3 * n))) := ⟨_, rfl⟩
      rw [← hW6]
      have hsz : W6.heap.size = w1.heap.size := by rw [hW6, sz_set, sz_set, sz_set, sz_set, sz_set]
      have RB6 : Blk W6 (w.heap.size + 1) 26 #[.int .i64 d.x, .int .i64 d.y, .int .i64 d.z, (.slice (some ⟨w1.heap.size + 1, 0, none⟩) n n), (.slice (some ⟨w1.heap.size, 0, none⟩) (3 * n) (3 * n))] := by rw [hW6]; exact RB.out.five'
      have HB6 : Below w.heap.size w W6 := by rw [hW6]; exact below_five HB.out (Nat.le_succ _)
      have hbz := HB.out.size
      obtain ⟨WF, hWF⟩ : ∃ WF, WF = ((W6.alloc (.cells (madeCells #[.slice none 0 0] (3 * n)) 65)).alloc (.cells (madeCells #[.slice none 0 0] n) 65)).drew := ⟨_, rfl⟩
      rw [← hWF]
      have RF : Blk WF (w.heap.size + 1) 26 #[.int .i64 d.x, .int .i64 d.y, .int .i64 d.z, (.slice (some ⟨w1.heap.size + 1, 0, none⟩) n n), (.slice (some ⟨w1.heap.size, 0, none⟩) (3 * n) (3 * n))] := by rw [hWF]; exact (RB6.alloc _).alloc _
      have L1 : LO WF w.heap.size (.slice (some ⟨w1.heap.size, 0, none⟩) (3 * n) (3 * n)) (List.replicate (3 * n) []) := by
        have := LO.made W6 w.heap.size (3 * n) (by omega) (by omega)
        rw [hsz] at this
        rw [hWF]
        exact this.keep (by (repeat (first | (with_reducible exact Below.refl _ _) | (with_reducible assumption) | (with_reducible refine below_alloc ?_ _) | (with_reducible refine below_drewN ?_ _) | (with_reducible refine Below.drew ?_) | (with_reducible refine below_then ?_ (by with_reducible assumption)) | (with_reducible refine Below.setCell ?_ (by go_size) _))))
      have L2 : LO WF w.heap.size (.slice (some ⟨w1.heap.size + 1, 0, none⟩) n n) (List.replicate n []) := by
        have := LO.made (W6.alloc (.cells (madeCells #[.slice none 0 0] (3 * n)) 65)) w.heap.size n (by simp; omega) (by omega)
        rw [show (W6.alloc (.cells (madeCells #[.slice none 0 0] (3 * n)) 65)).heap.size = w1.heap.size + 1 by simp [hsz]] at this
        rw [hWF]
        exact this.keep (by (repeat (first | (with_reducible exact Below.refl _ _) | (with_reducible assumption) | (with_reducible refine below_alloc ?_ _) | (with_reducible refine below_drewN ?_ _) | (with_reducible refine Below.drew ?_) | (with_reducible refine below_then ?_ (by with_reducible assumption)) | (with_reducible refine Below.setCell ?_ (by go_size) _))))
      have HBF : Below w.heap.size w WF := by rw [hWF]; (repeat (first | (with_reducible exact Below.refl _ _) | (with_reducible assumption) | (with_reducible refine below_alloc ?_ _) | (with_reducible refine below_drewN ?_ _) | (with_reducible refine Below.drew ?_) | (with_reducible refine below_then ?_ (by with_reducible assumption)) | (with_reducible refine Below.setCell ?_ (by go_size) _)))
      have r0 := RF.cell 0 (.int .i64 d.x) rfl
      have r1 := RF.cell 1 (.int .i64 d.y) rfl
      have r2 := RF.cell 2 (.int .i64 d.z) rfl
      have r3 := RF.cell 3 (.slice (some ⟨w1.heap.size + 1, 0, none⟩) n n) rfl
      have r4 := RF.cell 4 (.slice (some ⟨w1.heap.size, 0, none⟩) (3 * n) (3 * n)) rfl
      go_wp2_with fail
      refine bodyPost_ret (by simp [results, Tryz.results44, go_sem, r0, r1, r2, r3, r4]; try rfl) rfl ?_
      exact ⟨_, _, rfl, L2, L1, HBF⟩
  · have hV : newV d = Yd.zero := by unfold newV; rw [if_neg h]
    rw [hV, V3.err_no h]
    rw [V3.many_no h, V3.err_no h] at M
    clear h hV
    go_enter Tryz.func44, Tryz.ntmps44
    go_upto_region 1 with fail
    rw [← HW.out]
    have d0 := DB.out.cell 0 _ rfl
    have d1 := DB.out.cell 1 _ rfl
    have d2 := DB.out.cell 2 _ rfl
    go_wp2_with fail
    refine (M.out _).mono ?_
    rintro e w1 ⟨rfl, hb1⟩
    have RB := Lib.hid (RB.out.below hb1)
    have HB := Lib.hid (below_then HB.out hb1)
    clear hb1 d0 d1 d2
    (have q0 := RB.out.cell 0 _ rfl; have q1 := RB.out.cell 1 _ rfl; have q2 := RB.out.cell 2 _ rfl; have q3 := RB.out.cell 3 _ rfl; have q4 := RB.out.cell 4 _ rfl; have g0 := RB.out.frozen 0; have g1 := RB.out.frozen 1; have g2 := RB.out.frozen 2; have g3 := RB.out.frozen 3; have g4 := RB.out.frozen 4)
    go_wp2_with fail
    (have R0 := (RB.out).set 0 (.int .i64 0); have R1 := R0.set 1 (.int .i64 0); have R2 := R1.set 2 (.int .i64 0); have R3 := R2.set 3 (.slice none 0 0); have R4 := R3.set 4 (.slice none 0 0); have r0 := R0.cell 0 (.int .i64 0) rfl; have r1 := R1.cell 1 (.int .i64 0) rfl; have r2 := R2.cell 2 (.int .i64 0) rfl; have r3 := R3.cell 3 (.slice none 0 0) rfl; have r4 := R4.cell 4 (.slice none 0 0) rfl; clear R0 R1 R2 R3 R4; refine bodyPost_ret (by simp [results, Tryz.results44, go_sem, r0, r1, r2, r3, r4]; try rfl) rfl ?_)
    exact RYE.zero _ _ _ (by have hbF := HB.out; (repeat (first | (with_reducible exact Below.refl _ _) | (with_reducible assumption) | (with_reducible refine below_alloc ?_ _) | (with_reducible refine below_drewN ?_ _) | (with_reducible refine Below.drew ?_) | (with_reducible refine below_then ?_ (by with_reducible assumption)) | (with_reducible refine Below.setCell ?_ (by go_size) _))))
end
end
end Go.Proofs.YtofoenlhbmammaaGreat
