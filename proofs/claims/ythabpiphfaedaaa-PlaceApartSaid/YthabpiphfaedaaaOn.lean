/- SEQ: slices.AppendSeq, Collect, Sorted at numbers, against an iterator that turns nothing below its caller's place. -/
import Derived.Test.YthabpiphfaedaaaIRow
import Derived.Test.YthabpiphfaedaaaBlk
import Derived.Test.YthabpiphfaedaaaRound
import Derived.Test.YthabpiphfaedaaaPosW1
import Derived.RangeFuncFrom
namespace Go.Proofs.Ythabpiphfaedaaa
open Go.RowKit Go.Shelf
attribute [local go_sem] Oper.semAt_some

theorem own_own {W W' : World} {row : Option Nat} {B n : Nat} {v : Value} {xs : List Value} (h : W.ownsRow B 3 1 v n xs) (hg : W.grownBy W' row) (hr : ∀ r, row = some r → ∃ o : Obj, W.heap[r]? = some o ∧ o.isCells = false) : W'.ownsRow B 3 1 v n xs := by
  refine h.kept hg ?_
  cases hv : v.ownBlock with
  | none => exact .inl rfl
  | some g =>
    right
    intro e
    obtain ⟨o, ho, hc⟩ := hr g e.symm
    rcases h.2 with ⟨rfl, _⟩ | ⟨g', cap, cur, rfl, _, hg', _⟩
    · cases hv
    · simp only [Value.ownBlock, Option.some.injEq] at hv
      subst hv
      rw [ho] at hg'
      cases hg'
      cases hc
theorem own_isCells {W : World} {B n : Nat} {v : Value} {xs : List Value} {e : TypeId} {size : Nat} (h : W.ownsRow B e size v n xs) : ∀ (j : Nat) (o : Obj), v.ownBlock = some j → W.heap[j]? = some o → o.isCells = true := by
  intro j o hj ho
  rcases h.2 with ⟨rfl, _⟩ | ⟨g', cap, cur, rfl, _, hg', _⟩
  · cases hj
  · simp only [Value.ownBlock, Option.some.injEq] at hj
    subst hj
    rw [hg'] at ho
    cases ho
    rfl
theorem own_other {w : World} {B g j : Nat} {v u : Value} {n : Nat} {xs : List Value} {e : TypeId} {size : Nat} (h : w.ownsRow B e size v n xs) (hne : v.ownBlock ≠ some g) : (w.setCell ⟨g, j, none⟩ u).ownsRow B e size v n xs :=
  h.kept (row := some g) ⟨rfl, rfl, rfl, by simp, fun k _ hk => heap_setCell_other w ⟨g, j, none⟩ k u (fun e => hk (by simp [e]))⟩ (by
    cases hv : v.ownBlock with
    | none => exact .inl rfl
    | some x => exact .inr (by rw [← hv]; exact hne))
/-- An iterator of numbers: so many, in this order, and nothing below a place turned but by the yields. -/
def Gives (g : Nat) (lb : Array Value) (xs : List Int) (n₀ : Nat) (w : World) : Prop :=
  SeqStopsK Fence.wide 11 Try.prog g lb (fun x : Int => #[Value.int .i64 x]) (Below n₀) (fun ys => ys = xs) (fun _ => True) (xs.length + 1) w
set_option maxRecDepth 100000 in set_option maxHeartbeats 4000000 in
theorem appendSeq (g : Nat) (lb : Array Value) (eg : ∀ args w, (callFunc g args).run Try.prog w = .ok (.enter g args) w) (xs : List Int) (w : World) (hl : xs.length ≤ 20000)
    (hseq : Gives g lb xs w.heap.size w) :
    Calls Try.prog 128 #[.slice none 0 0, .func (.func g) #[] lb] w (RL w xs) := by
  obtain ⟨i0, hi, iz0, iz1, iz2⟩ := info_parts infoInt
  have HQ := Lib.hid hseq
  clear hseq
  refine (callsIn_wide (n := 12)).1 ?_
  refine callsIn_of_wp_marks Try.func128 rfl trivial ?_ rfl
  simp only [Try.ntmps128, List.size_toArray, List.length_cons, List.length_nil, Nat.reduceAdd, Nat.reduceSub, Array.replicate_succ, Array.replicate_zero, List.push_toArray, List.append_toArray, List.nil_append, List.cons_append]
  gi_wp2
  refine wpIn_rangeFunc_ownF rfl (by omega) (gf := g) (lb := lb) rfl trivial eg HQ.out belowK_t (belowK_b (by simp)) (show Below w.heap.size w _ by (repeat (first | (with_reducible exact Below.refl _ _) | (with_reducible assumption) | (with_reducible refine below_alloc ?_ _) | (with_reducible refine below_drewN ?_ _) | (with_reducible refine Below.drew ?_) | (with_reducible refine below_then ?_ (by with_reducible assumption)) | (with_reducible refine Below.setCell ?_ (by go_size) _)))) (fun _ => rfl)
    (fun pre W => (∃ v, Blk W w.heap.size 30 #[v] ∧ W.ownsRow (w.heap.size + 1) 3 1 v pre.length (ic pre)) ∧ Below w.heap.size w W)
    (fun _ _ _ => False)
    (OwnFrom.and (Own.from (fun s A B row hs hg hr => by obtain ⟨v, h1, h2⟩ := hs; exact ⟨v, h1.own hg hr, own_own h2 hg hr⟩) _) (ownFrom_below (Nat.le_refl _) (by simp)))
    (fun _ _ _ _ _ hs _ _ => hs)
    ⟨⟨_, Blk.new w _ _, ⟨rfl, .inl ⟨rfl, rfl⟩⟩⟩, by (repeat (first | (with_reducible exact Below.refl _ _) | (with_reducible assumption) | (with_reducible refine below_alloc ?_ _) | (with_reducible refine below_drewN ?_ _) | (with_reducible refine Below.drew ?_) | (with_reducible refine below_then ?_ (by with_reducible assumption)) | (with_reducible refine Below.setCell ?_ (by go_size) _)))⟩
    (fun x => { tmps := #[.slice none 0 0, .func (.func g) #[] lb, .pointer (some ⟨w.heap.size, 0, none⟩), undef, .slice none 0 0, .int .i64 x, .func (.func g) #[] lb, .int .i64 x, undef, undef, undef, undef, undef], defers := [] }) ?assign ?body ?done ?stop
  case assign =>
    intro l x W K hK
    gi_wp2
    exact hK
  case body =>
    rintro l pre x W ⟨⟨v, hB, hO⟩, hb⟩ hlen
    have c0 := hB.cell 0 _ rfl
    have f0 := hB.frozen 0
    have HBx := Lib.hid hB
    have HO := Lib.hid hO
    have HB := Lib.hid hb
    have hz0 := hb.size
    have hblt := hB.lt
    clear hB hO hb
    gi_wp2_with (gi_at_builtin; refine wpListIn_append_own _ rfl _ _ 30 rfl (w.heap.size + 1) 3 i0 (.int .i64 0) 1 8 Try.underlying30 hi iz0 iz1 iz2 rfl (by decide) _ _ _ rfl (HO.out.alloc _) ⟨_, 0, none⟩ 1 1 [.int .i64 x] rfl rfl (cell_new1 _ _ _) (by simp [Value.oneCell']) ?_ ?_ ?_ ?_)
    all_goals try (first | omega | (unfold maxLen; omega) | (simp; omega) | (simp; unfold maxLen; omega))
    intro v' w3 hown hg3 _
    have hlt' := (HO.out.alloc (.cells #[.int .i64 x] 3)).lt
    have hv3 : Blk w3 w.heap.size 30 #[v] := (HBx.out.alloc _).kept hg3 (fun e => by have := (hlt' _ e.symm).1; omega)
    have n3 := own_below (HO.out.alloc _) hg3 (by simp; omega)
    have hb3 : Below w.heap.size W w3 := ((Below.refl w.heap.size W).alloc hz0 _).trans (n3.mono (Nat.le_succ _))
    have hk3 : KeepsOthers W w3 := (KeepsOthers.alloc W _).trans (KeepsOthers.of_grownBy hg3 (own_isCells (HO.out.alloc _)))
    have hlt3 := hown.lt
    have hown' : w3.ownsRow (w.heap.size + 1) 3 1 v' (pre ++ [x]).length (ic (pre ++ [x])) := by rw [ic_app, List.length_append]; exact hown
    obtain ⟨g', cap', rfl⟩ : ∃ g' cap', v' = .slice (some ⟨g', 0, none⟩) (pre.length + 1) cap' := by
      rcases hown.2 with ⟨_, h0⟩ | ⟨g', cap', _, e, _⟩
      · exact absurd h0 (by omega)
      · exact ⟨g', cap', e⟩
    have c3 := hv3.cell 0 _ rfl
    have f3 := hv3.frozen 0
    have HV3 := Lib.hid hv3
    have HB3 := Lib.hid hb3
    have HK3 := Lib.hid hk3
    have HOw := Lib.hid hown'
    have HLt := Lib.hid hlt3
    clear hv3 n3 hb3 hk3 hown' hown hg3 hlt' hlt3 c0 f0
    gi_wp2
    refine ⟨HK3.out.trans (KeepsOthers.setCell _ _ _), HB3.out.setCell (p := ⟨w.heap.size, 0, none⟩) (Nat.le_refl _) _, ⟨_, HV3.out.set 0 _, own_other HOw.out (fun e => by have := (HLt.out _ e).1; omega)⟩, (HB.out.trans HB3.out).setCell (p := ⟨w.heap.size, 0, none⟩) (Nat.le_refl _) _⟩
  case done =>
    rintro D ys W hD rfl ⟨⟨v, hB, hO⟩, hb⟩ hK
    have c0 := hB.cell 0 _ rfl
    have HO := Lib.hid hO
    have HB := Lib.hid hb
    have HK := Lib.hid hK
    have hDD : w.heap.size < D := by simp at hD; omega
    clear hB hO hb hD hK
    gi_wp2
    refine ⟨by simp, .inl ⟨_, _, rfl, run_takeDeferred HK.out, ?_⟩⟩
    refine ⟨v, by simp [results, Try.f128, go_sem], v, rfl, own_mono (own_own HO.out (grownBy_putObj' W D _) (fun r e => by cases e; exact ⟨_, HK.out, rfl⟩)) (Nat.le_succ _), HB.out.trans (belowK_b (w := w) (Nat.le_refl _) _ D _ _ (by omega) HK.out rfl rfl)⟩
  case stop =>
    rintro D c pre W _ _ h _
    exact h.elim
set_option maxRecDepth 100000 in set_option maxHeartbeats 4000000 in
theorem collect (g : Nat) (lb : Array Value) (eg : ∀ args w, (callFunc g args).run Try.prog w = .ok (.enter g args) w) (xs : List Int) (w : World) (hl : xs.length ≤ 20000) (hseq : Gives g lb xs w.heap.size w) :
    Calls Try.prog 115 #[.func (.func g) #[] lb] w (RL w xs) := by
  have HA := Lib.hid (appendSeq g lb eg xs w hl hseq)
  clear hseq
  go_enter Try.func115, Try.ntmps115
  go_wp2_with fail
  refine HA.out.mono ?_
  rintro e w1 ⟨v, rfl, ho, hb⟩
  have HO := Lib.hid ho
  clear ho
  go_wp2_with fail
  go_returns
  exact ⟨_, rfl, HO.out, hb⟩
end Go.Proofs.Ythabpiphfaedaaa
