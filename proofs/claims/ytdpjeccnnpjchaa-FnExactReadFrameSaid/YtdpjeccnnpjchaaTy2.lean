/- More types of this program; no condition. -/
import Derived.Test.YtdpjeccnnpjchaaTy
import Derived.Test.YtdpjeccnnpjchaaEnc
namespace Go.Proofs.Ytdpjeccnnpjchaa
open Go.RowKit
theorem frv_len12 (f : List Nat) (h : f.length = 12) : (frv f).length = 12 := by rw [frv_length, h]
theorem tU8 : OneT Try.prog 5 (.int .u8 0) := oneT_of Try.underlying5 rfl (by kernel_rfl) rfl
end Go.Proofs.Ytdpjeccnnpjchaa
