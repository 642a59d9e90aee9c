/- YARDS: sets joined, at whole values; what a law that looks at calendars has at hand. -/
import Derived.Test.YtfikgjcmnooglaaYardC
import Derived.Test.YtfikgjcmnooglaaYardLaw
namespace Go.Proofs.Ytfikgjcmnooglaa
open Go.RowKit Go.Shelf

section
variable {W : World} {u v : Value} {a b : List Nat} (hu : SS W u a) (hv : SS W v b) {n : Int} (h : sChk2 n a b = 0)
include hu hv h
theorem ss_In : Calls Try.prog 61 #[.int .i64 n, u, v] W (RB W (.tuple #[.bool (!anyNZ (joinIf lessW n a b)), .int .i64 0])) := by
  obtain ⟨b1, c1, rfl, h1⟩ := hu.ex
  obtain ⟨b2, c2, rfl, h2⟩ := hv.ex
  have := set_In n b1 b2 c1 c2 a b W h1 h2
  rw [h, decide_eq_true (show (0 : Int) = 0 from rfl), Bool.true_and] at this
  exact this
theorem ss_Meet : Calls Try.prog 63 #[.int .i64 n, u, v] W (RB W (.tuple #[.bool (anyNZ (joinIf andW n a b)), .int .i64 0])) := by
  obtain ⟨b1, c1, rfl, h1⟩ := hu.ex
  obtain ⟨b2, c2, rfl, h2⟩ := hv.ex
  have := set_Meet n b1 b2 c1 c2 a b W h1 h2
  rw [h] at this
  exact this
theorem ss_Or : Calls Try.prog 62 #[.int .i64 n, u, v] W (fun e W' => ∃ x, e = .returned (.tuple #[x, .int .i64 0]) ∧ SS W' x (joinIf orW n a b) ∧ Below W.heap.size W W') := by
  obtain ⟨b1, c1, rfl, h1⟩ := hu.ex
  obtain ⟨b2, c2, rfl, h2⟩ := hv.ex
  have := set_Or n b1 b2 c1 c2 a b W h1 h2
  rw [h, if_pos rfl] at this
  have hj : joinIf orW n a b = List.zipWith orW a b := if_pos h
  have hlen : (joinIf orW n a b).length ≤ 4611686018427387904 := Nat.le_trans joinIf_len h1.len
  have hfit := joinIf_fit (n := n) orW_fit h1.fit h2.fit
  refine this.mono ?_
  rintro e W' ⟨x, rfl, hx, hb⟩
  rw [← hj] at hx
  exact ⟨x, rfl, SS.of hx hlen hfit, hb⟩
end
/-- Calendars and two spans, in their boxes. -/
structure BFr (w W : World) (d : V3) (bn bl : Option Addr) (cn cl : Nat) (ns ls : List (List Sl)) (f t g u : Int) : Prop where
  y : Blk W w.heap.size 42 #[.int .i64 d.x, .int .i64 d.y, .int .i64 d.z, (.slice bn ns.length cn), (.slice bl ls.length cl)]
  s : Blk W (w.heap.size + 1) 24 #[.int .i64 f, .int .i64 t]
  t : Blk W (w.heap.size + 1 + 1) 24 #[.int .i64 g, .int .i64 u]
  hn : CR W bn ns
  hl : CR W bl ls
  b : Below w.heap.size w W
theorem BFr.keep {w W W' : World} {d : V3} {bn bl : Option Addr} {cn cl : Nat} {ns ls : List (List Sl)} {f t g u : Int} (h : BFr w W d bn bl cn cl ns ls f t g u) (hb : Below W.heap.size W W') : BFr w W' d bn bl cn cl ns ls f t g u :=
  ⟨h.y.below hb, h.s.below hb, h.t.below hb, h.hn.keep hb, h.hl.keep hb, below_then h.b hb⟩
theorem BFr.new (w : World) (d : V3) (bn bl : Option Addr) (cn cl : Nat) (ns ls : List (List Sl)) (f t g u : Int) (hn : CR w bn ns) (hl : CR w bl ls) :
    BFr w (((w.alloc (.cells #[.int .i64 d.x, .int .i64 d.y, .int .i64 d.z, (.slice bn ns.length cn), (.slice bl ls.length cl)] 42)).alloc (.cells #[.int .i64 f, .int .i64 t] 24)).alloc (.cells #[.int .i64 g, .int .i64 u] 24)) d bn bl cn cl ns ls f t g u := by
  have hb : Below w.heap.size w (((w.alloc (.cells #[.int .i64 d.x, .int .i64 d.y, .int .i64 d.z, (.slice bn ns.length cn), (.slice bl ls.length cl)] 42)).alloc (.cells #[.int .i64 f, .int .i64 t] 24)).alloc (.cells #[.int .i64 g, .int .i64 u] 24)) := by (repeat (first | (with_reducible exact Below.refl _ _) | (with_reducible assumption) | (with_reducible refine below_alloc ?_ _) | (with_reducible refine below_drewN ?_ _) | (with_reducible refine Below.drew ?_) | (with_reducible refine below_then ?_ (by with_reducible assumption)) | (with_reducible refine Below.setCell ?_ (by go_size) _)))
  have e1 : w.heap.size + 1 = (w.alloc (.cells #[.int .i64 d.x, .int .i64 d.y, .int .i64 d.z, (.slice bn ns.length cn), (.slice bl ls.length cl)] 42)).heap.size := by simp
  have e2 : w.heap.size + 1 + 1 = ((w.alloc (.cells #[.int .i64 d.x, .int .i64 d.y, .int .i64 d.z, (.slice bn ns.length cn), (.slice bl ls.length cl)] 42)).alloc (.cells #[.int .i64 f, .int .i64 t] 24)).heap.size := by simp
  refine ⟨((Blk.new ..).alloc _).alloc _, ?_, ?_, hn.keep hb, hl.keep hb, hb⟩
  · rw [e1]; exact (Blk.new ..).alloc _
  · rw [e2]; exact Blk.new ..
theorem great_small {ns ls : List (List Sl)} (hg : greatB ns ls = false) : (ns.length ≤ 1000 ∧ ∀ c ∈ ns, c.length ≤ 10000) ∧ (ls.length ≤ 1000 ∧ ∀ c ∈ ls, c.length ≤ 10000) := by
  obtain ⟨h1, h2, h3⟩ := great_no hg
  exact ⟨⟨by omega, h1.2⟩, ⟨by omega, h2.2⟩⟩
theorem BFr.ys {w W : World} {d : V3} {bn bl : Option Addr} {cn cl : Nat} {ns ls : List (List Sl)} {f t g u : Int} (h : BFr w W d bn bl cn cl ns ls f t g u) (hs : (ns.length ≤ 1000 ∧ ∀ c ∈ ns, c.length ≤ 10000) ∧ (ls.length ≤ 1000 ∧ ∀ c ∈ ls, c.length ≤ 10000)) :
    YS W (.agg #[.int .i64 d.x, .int .i64 d.y, .int .i64 d.z, (.slice bn ns.length cn), (.slice bl ls.length cl)]) ⟨d, ns, ls⟩ := ⟨bn, bl, cn, cl, rfl, ⟨h.hn, hs.1.1, hs.1.2⟩, ⟨h.hl, hs.2.1, hs.2.2⟩⟩
theorem busyE_0 {y : Yd} {f t : Int} (h : busyE y f t = 0) : y.okB = true ∧ spMay f t := by
  unfold busyE at h
  cases hok : y.okB with
  | false => rw [hok] at h; cases h
  | true =>
    rw [hok, if_pos rfl] at h
    refine ⟨rfl, ?_⟩
    by_cases hs : spMay f t
    · exact hs
    · rw [okIf_no hs] at h; cases h
end Go.Proofs.Ytfikgjcmnooglaa
