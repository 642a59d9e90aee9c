/- REF 01, 05: steps on along an axis. -/
import Derived.RangeFuncFrom
import Derived.Test.YtofoenlhbmammaaGreatQ1F11
import Derived.Test.YtofoenlhbmammaaGreatQ5F11
import Derived.Test.YtofoenlhbmammaaGreatQ6F11
import Derived.Test.YtofoenlhbmammaaGreatQ0PosNF11
import Derived.Test.YtofoenlhbmammaaGreatQ8F11
import Derived.Test.YtofoenlhbmammaaGreatQ0WireAF11
set_option linter.unusedVariables false
set_option linter.unusedSimpArgs false
namespace Go.Proofs.YtofoenlhbmammaaGreat

section
section
open Go.RowKit Go.Shelf
attribute [local go_sem] Oper.semAt_some

theorem own_own {W W' : World} {row : Option Nat} {B n : Nat} {v : Value} {xs : List Value} (h : W.ownsRow B 3 1 v n xs) (hg : W.grownBy W' row) (hr : ∀ r, row = some r → ∃ o : Obj, W.heap[r]? = some o ∧ o.isCells = false) : W'.ownsRow B 3 1 v n xs := by
  refine h.kept hg ?_
  cases hv : v.ownBlock with
  | none => exact .inl rfl
  | some g =>
    right
    intro e
    obtain ⟨o, ho, hc⟩ := hr g e.symm
    rcases h.2 with ⟨rfl, _⟩ | ⟨g', cap, cur, rfl, _, hg', _⟩
    · cases hv
    · simp only [Value.ownBlock, Option.some.injEq] at hv
      subst hv
      rw [ho] at hg'
      cases hg'
      cases hc
theorem own_isCells {W : World} {B n : Nat} {v : Value} {xs : List Value} {e : TypeId} {size : Nat} (h : W.ownsRow B e size v n xs) : ∀ (j : Nat) (o : Obj), v.ownBlock = some j → W.heap[j]? = some o → o.isCells = true := by
  intro j o hj ho
  rcases h.2 with ⟨rfl, _⟩ | ⟨g', cap, cur, rfl, _, hg', _⟩
  · cases hj
  · simp only [Value.ownBlock, Option.some.injEq] at hj
    subst hj
    rw [hg'] at ho
    cases ho
    rfl
theorem own_othW {w : World} {B g j : Nat} {v u : Value} {n : Nat} {xs : List Value} {e : TypeId} {size : Nat} (h : w.ownsRow B e size v n xs) (hne : v.ownBlock ≠ some g) : (w.setCell ⟨g, j, none⟩ u).ownsRow B e size v n xs :=
  h.kept (row := some g) ⟨rfl, rfl, rfl, by simp, fun k _ hk => heap_setCell_other w ⟨g, j, none⟩ k u (fun e => hk (by simp [e]))⟩ (by
    cases hv : v.ownBlock with
    | none => exact .inl rfl
    | some x => exact .inr (by rw [← hv]; exact hne))
/-- An iterator of numbers: so many, in this order, and nothing below a place turned but by the yields. -/
def Gives (g : Nat) (lb : Array Value) (xs : List Int) (n₀ : Nat) (w : World) : Prop :=
  SeqStopsK Fence.wide 11 Tryz.prog g lb (fun x : Int => #[Value.int .i64 x]) (Below n₀) (fun ys => ys = xs) (fun _ => True) (xs.length + 1) w
set_option maxRecDepth 100000 in set_option maxHeartbeats 4000000 in
theorem appendSeq (g : Nat) (lb : Array Value) (eg : ∀ args w, (callFunc g args).run Tryz.prog w = .ok (.enter g args) w) (xs : List Int) (w : World) (hl : xs.length ≤ 20000)
    (hseq : Gives g lb xs w.heap.size w) :
    Calls Tryz.prog 134 #[.slice none 0 0, .func (.func g) #[] lb] w (RL w xs) := by
  obtain ⟨i0, hi, iz0, iz1, iz2⟩ := info_parts infoInt
  have HQ := Lib.hid hseq
  clear hseq
  refine (callsIn_wide (n := 12)).1 ?_
  refine callsIn_of_wp_marks Tryz.func134 rfl trivial ?_ rfl
  simp only [Tryz.ntmps134, List.size_toArray, List.length_cons, List.length_nil, Nat.reduceAdd, Nat.reduceSub, Array.replicate_succ, Array.replicate_zero, List.push_toArray, List.append_toArray, List.nil_append, List.cons_append]
  gi_wp2
  refine wpIn_rangeFunc_ownF rfl (by omega) (gf := g) (lb := lb) rfl trivial eg HQ.out belowK_t (belowK_b (by simp)) (show Below w.heap.size w _ by (repeat (first | (with_reducible exact Below.refl _ _) | (with_reducible assumption) | (with_reducible refine below_alloc ?_ _) | (with_reducible refine below_drewN ?_ _) | (with_reducible refine Below.drew ?_) | (with_reducible refine below_then ?_ (by with_reducible assumption)) | (with_reducible refine Below.setCell ?_ (by go_size) _)))) (fun _ => rfl)
    (fun pre W => (∃ v, Blk W w.heap.size 83 #[v] ∧ W.ownsRow (w.heap.size + 1) 3 1 v pre.length (ic pre)) ∧ Below w.heap.size w W)
    (fun _ _ _ => False)
    (OwnFrom.and (Own.from (fun s A B row hs hg hr => by obtain ⟨v, h1, h2⟩ := hs; exact ⟨v, h1.own hg hr, own_own h2 hg hr⟩) _) (ownFrom_below (Nat.le_refl _) (by simp)))
    (fun _ _ _ _ _ hs _ _ => hs)
    ⟨⟨_, Blk.new w _ _, ⟨rfl, .inl ⟨rfl, rfl⟩⟩⟩, by (repeat (first | (with_reducible exact Below.refl _ _) | (with_reducible assumption) | (with_reducible refine below_alloc ?_ _) | (with_reducible refine below_drewN ?_ _) | (with_reducible refine Below.drew ?_) | (with_reducible refine below_then ?_ (by with_reducible assumption)) | (with_reducible refine Below.setCell ?_ (by go_size) _)))⟩
    (fun x => { tmps := #[.slice none 0 0, .func (.func g) #[] lb, .pointer (some ⟨w.heap.size, 0, none⟩), undef, .slice none 0 0, .int .i64 x, .func (.func g) #[] lb, .int .i64 x, undef, undef, undef, undef, undef], defers := [] }) ?assign ?body ?done ?stop
  case assign =>
    intro l x W K hK
    gi_wp2
    exact hK
  case body =>
    rintro l pre x W ⟨⟨v, hB, hO⟩, hb⟩ hlen
    have c0 := hB.cell 0 _ rfl
    have f0 := hB.frozen 0
    have HBx := Lib.hid hB
    have HO := Lib.hid hO
    have HB := Lib.hid hb
    have hz0 := hb.size
    have hblt := hB.lt
    clear hB hO hb
    gi_wp2_with (gi_at_builtin; refine wpListIn_append_own _ rfl _ _ 83 rfl (w.heap.size + 1) 3 i0 (.int .i64 0) 1 8 Tryz.underlying83 hi iz0 iz1 iz2 rfl (by decide) _ _ _ rfl (HO.out.alloc _) ⟨_, 0, none⟩ 1 1 [.int .i64 x] rfl rfl (cell_new1 _ _ _) (by simp [Value.oneCell']) ?_ ?_ ?_ ?_)
    all_goals try (first | omega | (unfold maxLen; omega) | (simp; omega) | (simp; unfold maxLen; omega))
    intro v' w3 hown hg3 _
    have hlt' := (HO.out.alloc (.cells #[.int .i64 x] 3)).lt
    have hv3 : Blk w3 w.heap.size 83 #[v] := (HBx.out.alloc _).kept hg3 (fun e => by have := (hlt' _ e.symm).1; omega)
    have n3 := own_below (HO.out.alloc _) hg3 (by simp; omega)
    have hb3 : Below w.heap.size W w3 := ((Below.refl w.heap.size W).alloc hz0 _).trans (n3.mono (Nat.le_succ _))
    have hk3 : KeepsOthers W w3 := (KeepsOthers.alloc W _).trans (KeepsOthers.of_grownBy hg3 (own_isCells (HO.out.alloc _)))
    have hlt3 := hown.lt
    have hown' : w3.ownsRow (w.heap.size + 1) 3 1 v' (pre ++ [x]).length (ic (pre ++ [x])) := by rw [ic_app, List.length_append]; exact hown
    obtain ⟨g', cap', rfl⟩ : ∃ g' cap', v' = .slice (some ⟨g', 0, none⟩) (pre.length + 1) cap' := by
      rcases hown.2 with ⟨_, h0⟩ | ⟨g', cap', _, e, _⟩
      · exact absurd h0 (by omega)
      · exact ⟨g', cap', e⟩
    have c3 := hv3.cell 0 _ rfl
    have f3 := hv3.frozen 0
    have HV3 := Lib.hid hv3
    have HB3 := Lib.hid hb3
    have HK3 := Lib.hid hk3
    have HOw := Lib.hid hown'
    have HLt := Lib.hid hlt3
    clear hv3 n3 hb3 hk3 hown' hown hg3 hlt' hlt3 c0 f0
    gi_wp2
    refine ⟨HK3.out.trans (KeepsOthers.setCell _ _ _), HB3.out.setCell (p := ⟨w.heap.size, 0, none⟩) (Nat.le_refl _) _, ⟨_, HV3.out.set 0 _, own_othW HOw.out (fun e => by have := (HLt.out _ e).1; omega)⟩, (HB.out.trans HB3.out).setCell (p := ⟨w.heap.size, 0, none⟩) (Nat.le_refl _) _⟩
  case done =>
    rintro D ys W hD rfl ⟨⟨v, hB, hO⟩, hb⟩ hK
    have c0 := hB.cell 0 _ rfl
    have HO := Lib.hid hO
    have HB := Lib.hid hb
    have HK := Lib.hid hK
    have hDD : w.heap.size < D := by simp at hD; omega
    clear hB hO hb hD hK
    gi_wp2
    refine ⟨by simp, .inl ⟨_, _, rfl, run_takeDeferred HK.out, ?_⟩⟩
    refine ⟨v, by simp [results, Tryz.f134, go_sem], v, rfl, own_mono (own_own HO.out (grownBy_putObj' W D _) (fun r e => by cases e; exact ⟨_, HK.out, rfl⟩)) (Nat.le_succ _), HB.out.trans (belowK_b (w := w) (Nat.le_refl _) _ D _ _ (by omega) HK.out rfl rfl)⟩
  case stop =>
    rintro D c pre W _ _ h _
    exact h.elim
set_option maxRecDepth 100000 in set_option maxHeartbeats 4000000 in
theorem collect (g : Nat) (lb : Array Value) (eg : ∀ args w, (callFunc g args).run Tryz.prog w = .ok (.enter g args) w) (xs : List Int) (w : World) (hl : xs.length ≤ 20000) (hseq : Gives g lb xs w.heap.size w) :
    Calls Tryz.prog 119 #[.func (.func g) #[] lb] w (RL w xs) := by
  have HA := Lib.hid (appendSeq g lb eg xs w hl hseq)
  clear hseq
  go_enter Tryz.func119, Tryz.ntmps119
  go_wp2_with fail
  refine HA.out.mono ?_
  rintro e w1 ⟨v, rfl, ho, hb⟩
  have HO := Lib.hid ho
  clear ho
  go_wp2_with fail
  go_returns
  exact ⟨_, rfl, HO.out, hb⟩
end

section
open Go.RowKit Go.Shelf
attribute [local go_sem] Oper.semAt_some

/-- The cables. -/
def V3.links (d : V3) (k : Nat) (m : Int) (many : Nat) : List Int := (List.range many).map (fun (i : Nat) => (k : Int) * d.n + d.step m k (i : Int))
theorem V3.links_len (d : V3) (k : Nat) (m : Int) (many : Nat) : (d.links k m many).length = many := by simp [V3.links]
theorem V3.links_take (d : V3) (k : Nat) (m : Int) {many i : Nat} (h : i < many) : (d.links k m many).take i ++ [(k : Int) * d.n + d.step m k i] = (d.links k m many).take (i + 1) := by
  rw [List.take_add_one, List.getElem?_eq_getElem (by rw [V3.links_len]; exact h)]
  simp [V3.links]
theorem V3.links_all (d : V3) (k : Nat) (m : Int) (many : Nat) : (d.links k m many).take many = d.links k m many := List.take_of_length_le (by rw [V3.links_len]; exact Nat.le_refl _)
theorem grown_none {w W : World} (hb : Below w.heap.size w W) : w.grownBy W none := ⟨hb.os, hb.tape, hb.output, hb.size, fun k hk _ => hb.block k hk⟩
/-- What the iterator reads. -/
structure OnAt (W : World) (b1 b2 b3 b4 : Nat) (d : V3) (k : Nat) (m : Int) (many : Nat) : Prop where
  many : W.cell? ⟨b1, 0, none⟩ = some (.int .i64 many)
  d : DimsAt W b2 d
  m : W.cell? ⟨b3, 0, none⟩ = some (.int .i64 m)
  k : W.cell? ⟨b4, 0, none⟩ = some (.int .i64 k)
theorem OnAt.keep {w W : World} {N b1 b2 b3 b4 : Nat} {d : V3} {k : Nat} {m : Int} {many : Nat} (h : OnAt w b1 b2 b3 b4 d k m many) (hb : Below N w W) (h1 : b1 < N) (h2 : b2 < N) (h3 : b3 < N) (h4 : b4 < N) : OnAt W b1 b2 b3 b4 d k m many :=
  ⟨(hb.cell (p := ⟨b1, 0, none⟩) h1).trans h.many, h.d.keep hb h2, (hb.cell (p := ⟨b3, 0, none⟩) h3).trans h.m, (hb.cell (p := ⟨b4, 0, none⟩) h4).trans h.k⟩
set_option maxRecDepth 100000 in set_option maxHeartbeats 4000000 in
theorem on_gives (b1 b2 b3 b4 n₀ : Nat) (d : V3) (k : Nat) (m : Int) (many : Nat) (w : World) (hd : d.may) (hk : k < 3) (m0 : 0 ≤ m) (m1 : m < d.n) (hn1 : d.at k ≠ 1) (hmany : many ≤ 1000) (h1 : b1 < n₀) (h2 : b2 < n₀) (h3 : b3 < n₀) (h4 : b4 < n₀) (hn₀ : n₀ ≤ w.heap.size)
    (ha : OnAt w b1 b2 b3 b4 d k m many) :
    Gives 130 #[.pointer (some ⟨b1, 0, none⟩), .pointer (some ⟨b2, 0, none⟩), .pointer (some ⟨b3, 0, none⟩), .pointer (some ⟨b4, 0, none⟩)] (d.links k m many) n₀ w := by
  intro l J Jx W hW hJ _ hY h0
  have HA := Lib.hid (ha.keep (hW.mono hn₀) h1 h2 h3 h4)
  have HS := Lib.hid (fun (i : Nat) (hi : i ≤ 1000) W => pos_Step d m k i W hd m0 m1 hk (by omega) (by omega))
  have HSt := Lib.hid (fun (i : Nat) => V3.num_lt hd (V3.stepped_inside hd m0 m1 hk i))
  have HL := Lib.hid (fun (x : Int) (hx : 0 ≤ x ∧ x < d.n) W => (show Calls Tryz.prog 132 #[.agg #[.int .i64 d.x, .int .i64 d.y, .int .i64 d.z], .int .i64 k, .int .i64 x] W (RB W (.tuple #[.int .i64 ((k : Int) * d.n + x), .int .i64 0])) by
    have h := wire_Link d k x W
    have ea : d.askE k x = 0 := by rw [V3.askE, if_pos hd, if_pos ⟨⟨by omega, by omega⟩, hx.1, hx.2⟩]
    have el : d.linkE k x = 0 := by rw [V3.linkE, if_pos ea, if_neg (by simpa using hn1)]
    have ev : d.linkV k x = (k : Int) * d.n + x := by rw [V3.linkV, if_pos el]
    rwa [el, ev] at h))
  have HT := Lib.hid (fun (i : Nat) (hi : i < many) => V3.links_take d k m hi)
  have HAll := Lib.hid (V3.links_all d k m many)
  have hll := V3.links_len d k m many
  have HY := Lib.hid (fun pre x W1 h hl => hY pre x W1 h hl)
  have HJ := Lib.hid (fun s W1 W2 (h : J s W1) (hb : Below W1.heap.size W1 W2) => hJ s W1 W2 none h (grown_none hb) (fun r e => by cases e))
  have hs0 : n₀ ≤ W.heap.size := Nat.le_trans hn₀ hW.size
  clear ha hY hJ hd m0 m1 hn1 hW
  generalize d.links k m many = xs at *
  refine callsIn_of_wp Tryz.func130 rfl trivial ?_ rfl
  simp only [Tryz.ntmps130, List.size_toArray, List.length_cons, List.length_nil, Nat.reduceAdd, Nat.reduceSub, Array.replicate_succ, Array.replicate_zero, List.push_toArray, List.append_toArray, List.nil_append, List.cons_append]
  have c0 := HA.out.many
  gi_wp2
  gi_loopw [12] (fun a wr => ∃ i : Nat, i ≤ many ∧ a = .int .i64 i ∧ J (xs.take i) wr ∧ Below n₀ W wr ∧ OnAt wr b1 b2 b3 b4 d k m many) (fun a _ => many - (intOf a).toNat)
  case atStart => exact ⟨0, Nat.zero_le _, rfl, h0, Below.refl _ _, HA.out⟩
  case round =>
    obtain ⟨i, hi, rfl, hJi, hbel, hon⟩ := hrel
    have HB := Lib.hid hbel
    have HO := Lib.hid hon
    have HJi := Lib.hid hJi
    have hzs := hbel.size
    clear hbel hon hJi HA c0 h0
    by_cases hlt : i < many
    · have hx := HSt.out i
      have HS1 := Lib.hid (fun W => HS.out i (by omega) W)
      have HX := Lib.hid (HT.out i hlt)
      rw [show d.step m k i = d.num (d.stepped m k i) from rfl] at HS1 HX
      obtain ⟨x, hxe⟩ : ∃ x, x = d.num (d.stepped m k i) := ⟨_, rfl⟩
      rw [← hxe] at hx HS1 HX
      clear hxe
      have HL1 := Lib.hid (fun W => HL.out x hx W)
      obtain ⟨u0, ⟨u1, u2, u3⟩, u4, u5⟩ := HO.out
      gi_wp2_with fail
      clear u0 u1 u2 u3 u4 u5
      refine ⟨trivial, ?_⟩
      refine (callsIn_wide.2 (HS1.out _)).mono ?_
      rintro e w1 ⟨rfl, hb1⟩
      have hz1 : n₀ ≤ wr.heap.size := by omega
      have HJi := Lib.hid (HJ.out _ _ _ HJi.out hb1)
      have HO := Lib.hid (HO.out.keep hb1 (by omega) (by omega) (by omega) (by omega))
      have HB := Lib.hid (HB.out.trans (hb1.mono hz1))
      have hz2 := hb1.size
      clear hb1
      obtain ⟨u0, ⟨u1, u2, u3⟩, u4, u5⟩ := HO.out
      gi_wp2_with fail
      clear u0 u1 u2 u3 u4 u5
      refine ⟨trivial, ?_⟩
      refine (callsIn_wide.2 (HL1.out _)).mono ?_
      rintro e w2 ⟨rfl, hb1⟩
      have HJi := Lib.hid (HJ.out _ _ _ HJi.out hb1)
      have HO := Lib.hid (HO.out.keep hb1 (by omega) (by omega) (by omega) (by omega))
      have HB := Lib.hid (HB.out.trans (hb1.mono (by omega)))
      clear hb1
      have hpl : (xs.take i).length < xs.length + 1 := by rw [List.length_take]; omega
      obtain ⟨fn, tmps, assign, body, hy, hR⟩ := HY.out (xs.take i) ((k : Int) * d.n + x) w2 HJi.out hpl
      try dsimp only at hy
      gi_wp2
      refine hR.mono ?_
      rintro e W3 (⟨rfl, hJ3, hk3⟩ | ⟨rfl, hJx3⟩)
      · have HJ3 := Lib.hid (show J (xs.take (i + 1)) W3 by have := hJ3; rwa [HX.out] at this)
        have HO3 := Lib.hid (HO.out.keep hk3 h1 h2 h3 h4)
        have HB3 := Lib.hid (HB.out.trans hk3)
        clear hJ3 hk3
        gi_wp2
        go_roundw
        case rel => exact ⟨i + 1, by omega, by go_num, HJ3.out, HB3.out, HO3.out⟩
        case measure => (simp [intOf] <;> omega)
      · gi_wp2
        exact bodyPost_ret (v := .tuple #[]) (by simp [results, Tryz.f130]) rfl ⟨⟨_, rfl⟩, .inr ⟨_, trivial, hJx3⟩⟩
    · obtain rfl : i = many := by omega
      have HF := Lib.hid (show J xs wr by have := HJi.out; rwa [HAll.out] at this)
      gi_wp2
      first
        | (go_end0; exact ⟨⟨_, rfl⟩, .inl ⟨_, rfl, HF.out⟩⟩)
        | (refine ⟨fun _ h => (by cases h), ?_⟩; gi_wp2; go_end0; exact ⟨⟨_, rfl⟩, .inl ⟨_, rfl, HF.out⟩⟩)

set_option maxRecDepth 100000 in set_option maxHeartbeats 4000000 in
theorem wire_on (d : V3) (k : Nat) (m : Int) (many : Nat) (w : World) :
    Calls Tryz.prog 114 #[.agg #[.int .i64 d.x, .int .i64 d.y, .int .i64 d.z], .int .i64 k, .int .i64 m, .int .i64 many] w fun e w' => e = .returned (.func (.func 130) #[] #[.pointer (some ⟨w.heap.size + 1 + 1 + 1, 0, none⟩), .pointer (some ⟨w.heap.size, 0, none⟩), .pointer (some ⟨w.heap.size + 1 + 1, 0, none⟩), .pointer (some ⟨w.heap.size + 1, 0, none⟩)]) ∧
      OnAt w' (w.heap.size + 1 + 1 + 1) w.heap.size (w.heap.size + 1 + 1) (w.heap.size + 1) d k m many ∧ w.heap.size + 1 + 1 + 1 < w'.heap.size ∧ Below w.heap.size w w' := by
  go_enter Tryz.func114, Tryz.ntmps114
  go_wp2_with fail
  go_returns
  exact ⟨rfl, ⟨by simp [go_sem], ⟨by simp [go_sem], by simp [go_sem], by simp [go_sem]⟩, by simp [go_sem], by simp [go_sem]⟩, by simp, by (repeat (first | (with_reducible exact Below.refl _ _) | (with_reducible assumption) | (with_reducible refine below_alloc ?_ _) | (with_reducible refine below_drewN ?_ _) | (with_reducible refine Below.drew ?_) | (with_reducible refine below_then ?_ (by with_reducible assumption)) | (with_reducible refine Below.setCell ?_ (by go_size) _)))⟩
end
end
end Go.Proofs.YtofoenlhbmammaaGreat
