/- THE SHELF: contracts of the library at this program, as plain declarations. -/
import Derived.Shelf.SlicesE.Delete
import Derived.Shelf.SlicesE.Kit
import Derived.Shelf.SlGeneric
import Derived.Ground.SlgnProg
import Derived.Test.YtpooieghlceefaaProg
namespace Go.Proofs.Ytpooieghlceefaa
open Go.Shelf
def Try.laysDel_ren : Go.Shelf.Ren := ⟨fun | 45 => 49 | n => n, fun | 22 => 32 | 23 => 3 | 3 => 3 | 4 => 4 | 0 => 0 | n => n, fun | n => n⟩
theorem Try.laysDel : Go.Proofs.SlLaysE.n45 Try.prog Try.laysDel_ren := {
  mixed := by kernel_rfl
  f45 := ⟨Try.f49.name, by decide, Try.func49.trans (congrArg some (by kernel_rfl))⟩
  t0 := Try.underlying0
  a0 := Try.isAgg0
  z0 := Try.sizeOf0
  v0 := Try.zeroValue0
  t3 := Try.underlying3
  a3 := Try.isAgg3
  z3 := Try.sizeOf3
  v3 := Try.zeroValue3
  t4 := Try.underlying4
  a4 := Try.isAgg4
  z4 := Try.sizeOf4
  v4 := Try.zeroValue4
  t22 := Try.underlying32
  a22 := Try.isAgg32
  z22 := Try.sizeOf32
  v22 := Try.zeroValue32
  a23 := Try.isAgg3
  z23 := Try.sizeOf3 }
end Go.Proofs.Ytpooieghlceefaa
