/- YARDS: a machine's calendars and their twin, side by side, while a law walks. -/
import Derived.Test.YtfikgjcmnooglaaYardN
import Derived.Test.YtfikgjcmnooglaaYardA
import Derived.Test.YtfikgjcmnooglaaYardO
import Derived.Test.YtfikgjcmnooglaaSet7
namespace Go.Proofs.Ytfikgjcmnooglaa
open Go.RowKit Go.Shelf

/-- A set's slice, whole. -/
structure SS (W : World) (v : Value) (ws : List Nat) : Prop where
  ex : ∃ base cap, v = .slice base ws.length cap ∧ SetIn W base ws
theorem SS.keep {w W : World} {v : Value} {ws : List Nat} (h : SS w v ws) (hb : Below w.heap.size w W) : SS W v ws := by
  obtain ⟨base, cap, e, h1⟩ := h.ex
  exact ⟨base, cap, e, h1.keep hb⟩
theorem SS.of {W : World} {B : Nat} {v : Value} {ws : List Nat} (h : W.ownsRow B 82 1 v ws.length (wcells ws)) (hl : ws.length ≤ 4611686018427387904) (hf : W64 ws) : SS W v ws := by
  obtain ⟨base, cap, e, h1, _⟩ := set_of_own h hl hf
  exact ⟨base, cap, e, h1⟩
theorem whS_len (p : List Sl → Bool) (ns : List (List Sl)) : (whS p ns).length = nWords ns.length := bitsOf_len _ _
theorem whS_fit (p : List Sl → Bool) (ns : List (List Sl)) : W64 (whS p ns) := bitsOf_fit _ _
theorem fit_nil : W64 [] := fun x h => by cases h
theorem SS.same {W : World} {u v : Value} {a b : List Nat} (hu : SS W u a) (hv : SS W v b) : Calls Try.prog 32 #[u, v] W (RB W (.bool (decide (a = b)))) := by
  obtain ⟨b1, c1, rfl, h1⟩ := hu.ex
  obtain ⟨b2, c2, rfl, h2⟩ := hv.ex
  exact ref03_Same b1 b2 c1 c2 a b W h1 h2
theorem busyV_ok (y : Yd) (f t : Int) (h1 : y.ns.length ≤ 1000) (h2 : y.ls.length ≤ 1000) : ((busyV y f t).1.length ≤ 1000 ∧ W64 (busyV y f t).1) ∧ ((busyV y f t).2.length ≤ 1000 ∧ W64 (busyV y f t).2) := by
  unfold busyV busySets
  split
  · simp only [whS_len]
    unfold nWords
    exact ⟨⟨by omega, whS_fit _ _⟩, ⟨by omega, whS_fit _ _⟩⟩
  · exact ⟨⟨by simp, fit_nil⟩, ⟨by simp, fit_nil⟩⟩
theorem ownV_ok (y : Yd) (ow a : Int) (h1 : y.ns.length ≤ 1000) (h2 : y.ls.length ≤ 1000) : ((ownV y ow a).1.length ≤ 1000 ∧ W64 (ownV y ow a).1) ∧ ((ownV y ow a).2.length ≤ 1000 ∧ W64 (ownV y ow a).2) := by
  unfold ownV ownSets
  split
  · simp only [whS_len]
    unfold nWords
    exact ⟨⟨by omega, whS_fit _ _⟩, ⟨by omega, whS_fit _ _⟩⟩
  · exact ⟨⟨by simp, fit_nil⟩, ⟨by simp, fit_nil⟩⟩
/-- Calendars, a yard's value. -/
structure YS (W : World) (v : Value) (y : Yd) : Prop where
  ex : ∃ bn bl cn cl, v = .agg #[.int .i64 y.d.x, .int .i64 y.d.y, .int .i64 y.d.z, (.slice bn y.ns.length cn), (.slice bl y.ls.length cl)] ∧ CC W bn y.ns ∧ CC W bl y.ls
theorem YS.keep {w W : World} {v : Value} {y : Yd} (h : YS w v y) (hb : Below w.heap.size w W) : YS W v y := by
  obtain ⟨bn, bl, cn, cl, e, h1, h2⟩ := h.ex
  exact ⟨bn, bl, cn, cl, e, h1.keep hb, h2.keep hb⟩
theorem YS.many {w : World} {v : Value} {y : Yd} (h : YS w v y) : y.ns.length ≤ 1000 ∧ y.ls.length ≤ 1000 := by
  obtain ⟨bn, bl, cn, cl, e, h1, h2⟩ := h.ex
  exact ⟨h1.many, h2.many⟩
/-- Two new sets, as they may be read, and an error. -/
def RSS (w : World) (a b : List Nat) (x : Int) : Ending → World → Prop := fun e w' => ∃ u v, e = .returned (.tuple #[u, v, .int .i64 x]) ∧ SS w' u a ∧ SS w' v b ∧ Below w.heap.size w w'
theorem RSS.of {P : Program} {f : FuncId} {args : Array Value} {w : World} {a b : List Nat} {x : Int} (h : Calls P f args w (RU2E w a b x)) (h1 : (a.length ≤ 1000 ∧ W64 a) ∧ (b.length ≤ 1000 ∧ W64 b)) : Calls P f args w (RSS w a b x) :=
  h.mono fun e w' ⟨u, v, he, hu, hv, hb⟩ => ⟨u, v, he, SS.of hu (by have := h1.1.1; omega) h1.1.2, SS.of hv (by have := h1.2.1; omega) h1.2.2, hb⟩
section
variable {w : World} {v : Value} {y : Yd} (h : YS w v y)
include h
theorem y_Busy (f t : Int) : Calls Try.prog 28 #[v, .agg #[.int .i64 f, .int .i64 t]] w (RSS w (busyV y f t).1 (busyV y f t).2 (busyE y f t)) := by
  have hm := h.many
  obtain ⟨bn, bl, cn, cl, rfl, h1, h2⟩ := h.ex
  exact RSS.of (cals_Busy y.d bn bl cn cl y.ns y.ls f t w h1 h2) (busyV_ok y f t hm.1 hm.2)
theorem y_RBusy (f t : Int) : Calls Try.prog 29 #[v, .agg #[.int .i64 f, .int .i64 t]] w (RSS w (busyV y f t).1 (busyV y f t).2 (busyE y f t)) := by
  have hm := h.many
  obtain ⟨bn, bl, cn, cl, rfl, h1, h2⟩ := h.ex
  exact RSS.of (ref09_Busy y.d bn bl cn cl y.ns y.ls f t w h1 h2) (busyV_ok y f t hm.1 hm.2)
theorem y_Owned (ow a : Int) : Calls Try.prog 30 #[v, .int .i64 ow, .int .i64 a] w (RSS w (ownV y ow a).1 (ownV y ow a).2 (ownE y a)) := by
  have hm := h.many
  obtain ⟨bn, bl, cn, cl, rfl, h1, h2⟩ := h.ex
  exact RSS.of (cals_Owned y.d bn bl cn cl y.ns y.ls ow a w h1 h2) (ownV_ok y ow a hm.1 hm.2)
theorem y_ROwned (ow a : Int) (ht : tot y.ns + tot y.ls ≤ 10000) : Calls Try.prog 31 #[v, .int .i64 ow, .int .i64 a] w (RSS w (ownV y ow a).1 (ownV y ow a).2 (ownE y a)) := by
  have hm := h.many
  obtain ⟨bn, bl, cn, cl, rfl, h1, h2⟩ := h.ex
  exact RSS.of (ref09_Owned y.d bn bl cn cl y.ns y.ls ow a w h1 h2 (by omega) (by omega)) (ownV_ok y ow a hm.1 hm.2)
theorem y_Same {u : Value} {z : Yd} (hu : YS w u z) : Calls Try.prog 33 #[v, u] w (RB w (.bool (y.same z))) := by
  obtain ⟨bn, bl, cn, cl, rfl, h1, h2⟩ := h.ex
  obtain ⟨bm, bk, cm, ck, rfl, h3, h4⟩ := hu.ex
  exact ref09_Same y.d z.d bn bl bm bk cn cl cm ck y.ns y.ls z.ns z.ls w h1 h2 h3 h4
end
theorem great_cc {w w' : World} {bn bl : Option Addr} {ns ls : List (List Sl)} (hn : CC w bn ns) (hl : CC w' bl ls) : (ns.length ≤ 1000 ∧ ∀ c ∈ ns, c.length ≤ 10000) ∧ (ls.length ≤ 1000 ∧ ∀ c ∈ ls, c.length ≤ 10000) := ⟨⟨hn.many, hn.small⟩, ⟨hl.many, hl.small⟩⟩
theorem great_reach (d : V3) (bn bl : Option Addr) (cn cl : Nat) (ns ls : List (List Sl)) (w : World) (hn : CR w bn ns) (hl : CR w bl ls)
    (hz : (ns.length * 24 ≤ reachBytes ∧ ∀ c ∈ ns, c.length * 24 ≤ reachBytes) ∧ (ls.length * 24 ≤ reachBytes ∧ ∀ c ∈ ls, c.length * 24 ≤ reachBytes)) :
    Calls Try.prog 26 #[.agg #[.int .i64 d.x, .int .i64 d.y, .int .i64 d.z, (.slice bn ns.length cn), (.slice bl ls.length cl)]] w (RB w (.bool (greatB ns ls))) := by
  have hr : reachBytes = 140737488351232 := rfl
  rw [hr] at hz
  obtain ⟨⟨h1, h2⟩, h3, h4⟩ := hz
  exact ref09_Great d bn bl cn cl ns ls w hn hl (by omega) (by omega) (fun c hc => by have := h2 c hc; omega) (fun c hc => by have := h4 c hc; omega)
end Go.Proofs.Ytfikgjcmnooglaa
