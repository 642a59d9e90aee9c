/- ROUNDS: a region that draws its order, in a round of a loop over a function: walked as elsewhere. -/
import Derived.RangeFuncCalls
import Derived.OrdersIn
import Derived.StillTailTactics
import Derived.Test.YtofoenlhbmammaaQ0BaseG13
set_option linter.unusedVariables false
set_option linter.unusedSimpArgs false
namespace Go.Proofs.Ytofoenlhbmammaa

section
open Go.RowKit Go.Shelf

/-- No operation puts a call off. -/
def noDefers (l : List Oper) : Bool := l.all fun o => match o.op with
  | .defer _ => false
  | _ => true

theorem upon_inRound {P : Program} {r n : Nat} {o : Oper} {a : Act} {K K' : Act → World → Prop} {Q : Exit → Act → World → Prop} (hK : ∀ a w, K a w → K' a w) :
    ∀ x : Result Next, o.upon P a K Q x → o.uponIn (Fence.wide.inRound r) n P a K' Q x
  | .ok (.value v) w, h => hK _ _ h
  | .ok .skip w, h => hK _ _ h
  | .ok (.defer d) w, h => hK _ _ h
  | .ok (.enter f args) w, h => ⟨(fun e => by cases e), CallsIn.inRound r (callsIn_wide.2 (Calls.mono h (fun e w' hh => by
      cases e with
      | returned v => exact hK _ _ hh
      | panicked c => exact hh
      | outgrown => exact hh)))⟩
  | .ok (.row row args) w, h => ⟨(fun e => by cases e), fun c cs _ => by
      obtain ⟨v, w', h1, h2⟩ := h c cs
      exact ⟨v, w', hK _ _ h1, stepsIn_wide.2 h2⟩⟩
  | .halt (.panic v) w, h => h

theorem wpAnyIn_of_wpAny {P : Program} {r n : Nat} {md : Region.Mode} {l : List Oper} {Q : Exit → Act → World → Prop} (hd : noDefers l = true) (hlo : ¬ LetsOut Q) :
    ∀ (fuel : Nat) (listed : Array Bool) (a : Act) (w : World), wpAny P md l.toArray Q fuel listed a w → wpAnyIn (Fence.wide.inRound r) n P md l.toArray Q fuel listed a w
  | 0, _, _, _, h => h
  | fuel + 1, listed, a, w, h => by
    refine ⟨h.1, fun i hi => ?_⟩
    have h2 := h.2 i hi
    unfold wpOp at h2
    unfold wpOpIn
    cases ho : l.toArray[i]? with
    | none => rw [ho] at h2; exact wpAnyIn_of_wpAny hd hlo fuel _ _ _ h2
    | some o =>
      rw [ho] at h2
      simp only at h2 ⊢
      split
      · next hw =>
        rw [if_pos hw] at h2
        rcases h2 with h2 | ⟨_, h2⟩
        · refine ⟨fun f _ => trivial, ?_⟩
          have hno : ∀ c, o.op ≠ .defer c := by
            have hm : o ∈ l := by simpa using Array.mem_of_getElem? ho
            have := List.all_eq_true.1 hd o hm
            intro c e
            rw [e] at this
            cases this
          rw [Oper.semAt_eq _ _ _ hno]
          exact upon_inRound (fun a' w' => wpAnyIn_of_wpAny hd hlo fuel _ a' w') _ h2
        · exact absurd h2 hlo
      · next hw =>
        rw [if_neg hw] at h2
        exact ⟨fun f _ => trivial, wpAnyIn_of_wpAny hd hlo fuel _ _ _ h2⟩

/-- A region that draws its order, whose operations only read, and whose callees leave the world alone but for draws. -/
theorem wpIn_round_quiet {P : Program} {r n id : Nat} {Q : Exit → Act → World → Prop} {a : Act} {w : World} {l : List Oper} (hm : P.follows .mixedOrders = true) (hB : Region.lexB .any l.toArray = true) (hd : noDefers l = true) (hlo : ¬ LetsOut Q)
    (h : wpQuiet P l.toArray (fun w' => ∃ n, w' = w.drewN n) (fun a' => ∀ w', (∃ n, w' = w.drewN n) → Q .normal a' w') l a) : (Code.region id l.toArray true).wpIn (Fence.wide.inRound r) n P Q a w := by
  refine wpIn_region_any hm (wpAnyIn_of_wpAny hd hlo _ _ _ _ ?_)
  simp only [Region.lexB, Bool.and_eq_true] at hB
  have hq := wpAnyQ_lex (P := P) (md := .any) hB.1 l 0 (Array.replicate l.length false) a (by simp) (by simpa using hB.2) h
  exact wpAny_of_quiet (Q := fun a' => ∀ w', (∃ n, w' = w.drewN n) → Q .normal a' w') (fun _ w' hw' h => h w' hw') _ _ _ _ ⟨1, rfl⟩ (by simpa using hq)

/-- A region that draws its order: reads, then a tail in one forced order. -/
theorem wpIn_round_tail {P : Program} {r k id : Nat} {Q : Exit → Act → World → Prop} {a : Act} {w : World} {l : List Oper} (n : Nat) (hm : P.follows .mixedOrders = true) (hB : Region.lexTailB .any l.toArray n = true) (hd : noDefers l = true) (hlo : ¬ LetsOut Q)
    (h : wpStill P l.toArray w.drew (fun a' => wpList P l.toArray Q (l.drop n) a' w.drew) (l.take n) a) : (Code.region id l.toArray true).wpIn (Fence.wide.inRound r) k P Q a w := by
  refine wpIn_region_any hm (wpAnyIn_of_wpAny hd hlo _ _ _ _ ?_)
  simp only [Region.lexTailB, Bool.and_eq_true, decide_eq_true_eq] at hB
  obtain ⟨⟨⟨⟨b1, b2⟩, b3⟩, b4⟩, b5⟩ := hB
  have b2' : n < l.length := by simpa using b2
  have t1 : (l.take n).length = n := by rw [List.length_take]; omega
  have t2 : (l.drop n).length = l.toArray.size - n := by simp
  have inv : HeadInv .any l.toArray n (Array.replicate l.toArray.size false) := ⟨by simp, fun j oj _ e => (by rw [getD_replicate_false] at e; cases e), fun t _ ht => getD_in (by simpa using ht) (getD_replicate_false _ _)⟩
  have H := wpAnyL_lex (md := .any) (g := l.toArray.size - n) b1 b3 b4 b2 (l.take n) 0 _ a (fun j hj => by rw [t1] at hj; simp [hj]) (by simpa using t1) inv (by rw [t1]; exact b5) h
  rw [t1] at H
  have G := wpAny_of_head (Q' := Q) (g := l.toArray.size - n) (fun listed a' hL => by
    have := wpAny_of_seq (md := .any) (Q' := Q) (l.drop n) n listed a' w.drew (fun j => by simp [List.getElem?_drop]) (by rw [t2]; exact hL.1) hL.2
    rwa [t2] at this) _ _ _ H
  rwa [show n + (l.toArray.size - n) = l.toArray.size by omega] at G
end
end Go.Proofs.Ytofoenlhbmammaa
