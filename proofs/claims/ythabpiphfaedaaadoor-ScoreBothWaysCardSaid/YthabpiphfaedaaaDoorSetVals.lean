/- SETS: what is told of them, and its bounds; rows of the call's own, read. -/
import Derived.Test.YthabpiphfaedaaaDoorSetList
import Derived.Test.YthabpiphfaedaaaDoorSetHas
import Derived.Test.YthabpiphfaedaaaDoorSetOf2
import Derived.Test.YthabpiphfaedaaaDoorInts
import Derived.Test.YthabpiphfaedaaaDoorSet7
namespace Go.Proofs.YthabpiphfaedaaaDoor
open Go.RowKit Go.Shelf

theorem listV_len (n : Int) (ws : List Nat) : (listV n ws).length ≤ 12288 := by
  unfold listV; split
  · next h =>
    have := sChk_len h
    have := numsTo_len ws (64 * ws.length)
    change (nums ws).length ≤ _ at this
    omega
  · simp
theorem ofSet_fit (n : Int) (l : List Int) : W64 (ofSet n l) := by
  unfold ofSet; split
  · exact bitsOf_fit _ _
  · intro x hx; simp at hx
theorem ofErr_may {n : Int} {l : List Int} (h : ofErr n l = 0) : nMay n ∧ l.length ≤ 65536 ∧ inR n l = true := by
  unfold ofErr at h
  by_cases hn : nMay n
  · rw [if_pos hn] at h
    by_cases hl : 65536 < l.length
    · rw [if_pos hl] at h; omega
    · rw [if_neg hl] at h
      by_cases hi : inR n l = true
      · exact ⟨hn, by omega, hi⟩
      · rw [if_neg hi] at h; omega
  · rw [if_neg hn] at h; omega
theorem ofSet_len (n : Int) (l : List Int) : (ofSet n l).length ≤ 192 := by
  unfold ofSet; split
  · next h => rw [bitsOf_len]; exact (nWords_pos (ofErr_may h).1).2
  · simp

end Go.Proofs.YthabpiphfaedaaaDoor
