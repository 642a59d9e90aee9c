/- BoxMeets: what its calls say. -/
import Derived.Test.YtilibdhcahdndaaMeetsLaw
import Derived.Test.YtilibdhcahdndaaBoxAlive
import Derived.Test.YtilibdhcahdndaaEqBox
namespace Go.Proofs.Ytilibdhcahdndaa
open Go.ChangeShapes Go.WideShapes Go.ChangeAt Go.RowKit Go.Shelf

/-- What a call of Meet, of Within, of Many, of Canon says. -/
def SaysMeet (d : V3) (a b : Bx) (x : Bool) (e : Int) : Prop := ∀ W, Calls Try.prog 21 #[.agg #[.int .i64 d.x, .int .i64 d.y, .int .i64 d.z], .agg #[.int .i64 a.b.x, .int .i64 a.b.y, .int .i64 a.b.z, .int .i64 a.s.x, .int .i64 a.s.y, .int .i64 a.s.z], .agg #[.int .i64 b.b.x, .int .i64 b.b.y, .int .i64 b.b.z, .int .i64 b.s.x, .int .i64 b.s.y, .int .i64 b.s.z]] W (RB W (.tuple #[.bool x, .int .i64 e]))
def SaysWithin (d : V3) (a b : Bx) (x : Bool) (e : Int) : Prop := ∀ W, Calls Try.prog 23 #[.agg #[.int .i64 d.x, .int .i64 d.y, .int .i64 d.z], .agg #[.int .i64 a.b.x, .int .i64 a.b.y, .int .i64 a.b.z, .int .i64 a.s.x, .int .i64 a.s.y, .int .i64 a.s.z], .agg #[.int .i64 b.b.x, .int .i64 b.b.y, .int .i64 b.b.z, .int .i64 b.s.x, .int .i64 b.s.y, .int .i64 b.s.z]] W (RB W (.tuple #[.bool x, .int .i64 e]))
def SaysVol (d : V3) (b : Bx) (n e : Int) : Prop := ∀ W, Calls Try.prog 29 #[.agg #[.int .i64 d.x, .int .i64 d.y, .int .i64 d.z], .agg #[.int .i64 b.b.x, .int .i64 b.b.y, .int .i64 b.b.z, .int .i64 b.s.x, .int .i64 b.s.y, .int .i64 b.s.z]] W (RB W (.tuple #[.int .i64 n, .int .i64 e]))
def SaysCanM (d : V3) (b c : Bx) (e : Int) : Prop := ∀ W, Calls Try.prog 26 #[.agg #[.int .i64 d.x, .int .i64 d.y, .int .i64 d.z], .agg #[.int .i64 b.b.x, .int .i64 b.b.y, .int .i64 b.b.z, .int .i64 b.s.x, .int .i64 b.s.y, .int .i64 b.s.z]] W (RB W (.tuple #[.agg #[.int .i64 c.b.x, .int .i64 c.b.y, .int .i64 c.b.z, .int .i64 c.s.x, .int .i64 c.s.y, .int .i64 c.s.z], .int .i64 e]))
def SaysAx0 (d : V3) (a b : Bx) (x : Bool) : Prop := ∀ W, Calls Try.prog 21 #[.agg #[.int .i64 d.x, .int .i64 1, .int .i64 1], .agg #[.int .i64 a.b.x, .int .i64 0, .int .i64 0, .int .i64 a.s.x, .int .i64 1, .int .i64 1], .agg #[.int .i64 b.b.x, .int .i64 0, .int .i64 0, .int .i64 b.s.x, .int .i64 1, .int .i64 1]] W (RB W (.tuple #[.bool x, .int .i64 0]))
def SaysAx1 (d : V3) (a b : Bx) (x : Bool) : Prop := ∀ W, Calls Try.prog 21 #[.agg #[.int .i64 1, .int .i64 d.y, .int .i64 1], .agg #[.int .i64 0, .int .i64 a.b.y, .int .i64 0, .int .i64 1, .int .i64 a.s.y, .int .i64 1], .agg #[.int .i64 0, .int .i64 b.b.y, .int .i64 0, .int .i64 1, .int .i64 b.s.y, .int .i64 1]] W (RB W (.tuple #[.bool x, .int .i64 0]))
def SaysAx2 (d : V3) (a b : Bx) (x : Bool) : Prop := ∀ W, Calls Try.prog 21 #[.agg #[.int .i64 1, .int .i64 1, .int .i64 d.z], .agg #[.int .i64 0, .int .i64 0, .int .i64 a.b.z, .int .i64 1, .int .i64 1, .int .i64 a.s.z], .agg #[.int .i64 0, .int .i64 0, .int .i64 b.b.z, .int .i64 1, .int .i64 1, .int .i64 b.s.z]] W (RB W (.tuple #[.bool x, .int .i64 0]))
end Go.Proofs.Ytilibdhcahdndaa
