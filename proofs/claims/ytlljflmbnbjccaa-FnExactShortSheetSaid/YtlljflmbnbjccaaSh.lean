/- The library's bodies as they lie in this program, for the shelf's contracts; no condition. -/
import Derived.Shelf.Bits.Mul64
import Derived.Test.YtlljflmbnbjccaaProg
namespace Go.Proofs.Ytlljflmbnbjccaa
open Go.Shelf
def shR : Go.Shelf.Ren := ⟨fun | 212 => 72 | 263 => 76 | 264 => 77 | n => n, fun | 5 => 5 | 46 => 88 | 51 => 95 | 53 => 98 | 80 => 102 | 146 => 96 | 148 => 99 | n => n, fun n => n⟩
theorem sh212 : Go.Proofs.Lays.n212 Try.prog shR := {
  mixed := by kernel_rfl
  f212 := Try.func72.trans (congrArg some (by kernel_rfl))
  f263 := Try.func76.trans (congrArg some (by kernel_rfl))
  f264 := Try.func77.trans (congrArg some (by kernel_rfl))
  t46 := Try.underlying88
  a46 := Try.isAgg88
  z46 := Try.sizeOf88
  v46 := Try.zeroValue88
  t51 := Try.underlying95
  a51 := Try.isAgg95
  z51 := Try.sizeOf95
  v51 := Try.zeroValue95
  t53 := Try.underlying98
  a53 := Try.isAgg98
  z53 := Try.sizeOf98
  v53 := Try.zeroValue98
  t146 := Try.underlying96
  a146 := Try.isAgg96
  z146 := Try.sizeOf96
  v146 := Try.zeroValue96
  t148 := Try.underlying99
  a148 := Try.isAgg99
  z148 := Try.sizeOf99
  v148 := Try.zeroValue99 }
end Go.Proofs.Ytlljflmbnbjccaa
