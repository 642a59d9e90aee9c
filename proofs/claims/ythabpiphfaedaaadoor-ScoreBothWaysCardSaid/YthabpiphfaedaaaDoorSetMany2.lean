/- REF 03: a set's numbers; how many there are. -/
import Derived.Test.YthabpiphfaedaaaDoorSetMany
namespace Go.Proofs.YthabpiphfaedaaaDoor
open Go.RowKit Go.Shelf

def listV (n : Int) (ws : List Nat) : List Int := if sChk n ws = 0 then nums ws else []
theorem sChk_len {n : Int} {ws : List Nat} (h : sChk n ws = 0) : ws.length ≤ 192 := by
  obtain ⟨hn, hlen, _⟩ := sMay_len h
  have hp := (nWords_pos hn).2
  omega

end Go.Proofs.YthabpiphfaedaaaDoor
