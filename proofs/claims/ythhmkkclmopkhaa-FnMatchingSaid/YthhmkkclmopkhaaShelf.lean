/- Contracts of Go's library, laid at this translation by the kit's own program. -/
import Derived.Shelf.SlicesE.Reverse
import Derived.Test.YthhmkkclmopkhaaProg
namespace Go.Proofs
open Go.Shelf
def Try.lays33_ren : Go.Shelf.Ren := ⟨fun | 35 => 33 | n => n, fun | 22 => 30 | 23 => 5 | 3 => 3 | 4 => 4 | 0 => 0 | n => n, fun | n => n⟩
theorem Try.lays33 : Go.Proofs.SlLaysE.n35 Try.prog Try.lays33_ren := {
  mixed := by kernel_rfl
  f35 := ⟨Try.f33.name, by decide, Try.func33.trans (congrArg some (by kernel_rfl))⟩
  t0 := Try.underlying0
  a0 := Try.isAgg0
  z0 := Try.sizeOf0
  v0 := Try.zeroValue0
  t3 := Try.underlying3
  a3 := Try.isAgg3
  z3 := Try.sizeOf3
  v3 := Try.zeroValue3
  t4 := Try.underlying4
  a4 := Try.isAgg4
  z4 := Try.sizeOf4
  v4 := Try.zeroValue4
  t22 := Try.underlying30
  a22 := Try.isAgg30
  z22 := Try.sizeOf30
  v22 := Try.zeroValue30
  a23 := Try.isAgg5
  z23 := Try.sizeOf5 }
end Go.Proofs
