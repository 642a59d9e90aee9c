/- LISTS: a list's slice, whole; whether two are the same. -/
import Derived.Test.YtpooieghlceefaaWireAlive
import Derived.Test.YtpooieghlceefaaRun2
import Derived.Test.YtpooieghlceefaaLine
import Derived.Test.YtpooieghlceefaaInts
namespace Go.Proofs.Ytpooieghlceefaa
open Go.ChangeShapes Go.WideShapes Go.ChangeAt Go.RowKit Go.Shelf

/-- A list's slice, whole. -/
structure LS (W : World) (v : Value) (l : List Int) : Prop where
  ex : ∃ base cap, v = .slice base l.length cap ∧ LIn W base l
theorem LS.keep {w W : World} {v : Value} {l : List Int} (h : LS w v l) (hb : Below w.heap.size w W) : LS W v l := by
  obtain ⟨base, cap, e, h1⟩ := h.ex
  exact ⟨base, cap, e, h1.keep hb⟩
theorem ls_of_own {W : World} {B : Nat} {v : Value} {l : List Int} (h : W.ownsRow B 3 1 v l.length (ic l)) (hl : l.length ≤ 4611686018427387904) : LS W v l := by
  obtain ⟨base, cap, e, h1, _⟩ := list_of_own h hl
  exact ⟨base, cap, e, h1⟩
theorem s_Ints {w : World} {v u : Value} {a b : List Int} (h : LS w v a) (hd : LS w u b) : Calls Try.prog 17 #[v, u] w (RB w (.bool (decide (a = b)))) := by
  obtain ⟨base, cap, rfl, h1⟩ := h.ex
  obtain ⟨base', cap', rfl, h2⟩ := hd.ex
  exact ref02_Ints base base' cap cap' a b w h1 h2
theorem s_Ints1 {w : World} {v u : Value} {a : List Int} (h : LS w v a) (hd : LS w u a) : Calls Try.prog 17 #[v, u] w (RB w (.bool true)) := Calls.rb_eq (s_Ints h hd) (show Value.bool (decide _) = .bool true by rw [decide_eq_true rfl])
theorem V3.line_len {d : V3} (axis m : Int) : (d.lineV axis m).length ≤ 16 := by
  unfold V3.lineV
  split
  · next h =>
    obtain ⟨hd, hr, _⟩ := V3.askE_0 h.1
    rw [sorted_len, V3.links_len]
    unfold V3.may at hd
    have hc : axis = 0 ∨ axis = 1 ∨ axis = 2 := by omega
    rcases hc with rfl | rfl | rfl
    · show (d.x).toNat ≤ 16; omega
    · show (d.y).toNat ≤ 16; omega
    · show (d.z).toNat ≤ 16; omega
  · exact Nat.zero_le _
end Go.Proofs.Ytpooieghlceefaa
