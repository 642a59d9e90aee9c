/- BITS: math/bits.TrailingZeros64, by the shelf's contract. -/
import Derived.Test.YthabpiphfaedaaaDoorProg
import Derived.Below
import Derived.Test.YthabpiphfaedaaaDoorShelfTz
import Derived.Shelf.Spec.TrailingZeros
namespace Go.Proofs.YthabpiphfaedaaaDoor
open Go.RowKit Go.Shelf

theorem tz64 (x : Nat) (hx : x < 18446744073709551616) (w : World) (hT : TabAt 0 Lib.deBruijn64tab w) :
    Calls Tryd.prog 50 #[.int .u64 x] w fun e w' => e = .returned (.int .i64 (Lib.ctz 64 x)) ∧ w' = w :=
  Any7.bits_TrailingZeros64 Tryd.laysTz x hx w (fun _ => hT)

theorem tab_keep {g : Nat} {tab : List Nat} {w W : World} (h : TabAt g tab w) (hg : g < w.heap.size) (hb : Below w.heap.size w W) : TabAt g tab W :=
  fun j hj => (hb.cell (p := ⟨g, j, none⟩) hg).trans (h j hj)
end Go.Proofs.YthabpiphfaedaaaDoor
