/- More types of this program; no condition. -/
import Derived.Test.YtmfgbkmkcljciaaTy
import Derived.Test.YtmfgbkmkcljciaaEnc
namespace Go.Proofs.Ytmfgbkmkcljciaa
open Go.RowKit
theorem frv_len12 (f : List Nat) (h : f.length = 12) : (frv f).length = 12 := by rw [frv_length, h]
theorem tU8 : OneT Try.prog 5 (.int .u8 0) := oneT_of Try.underlying5 rfl (by kernel_rfl) rfl
theorem tBook : SlcT Try.prog 26 52 12 24 (frv zf) := slcT_of Try.underlying26 (.agg (frv zf).toArray) (by kernel_rfl) rfl (by decide) rfl
theorem tRawS : SlcT Try.prog 22 51 12 24 (frv zf) := slcT_of Try.underlying22 (.agg (frv zf).toArray) (by kernel_rfl) rfl (by decide) rfl
theorem tI64S : SlcT Try.prog 37 2 1 8 [.int .i64 0] := slcT_of Try.underlying37 (.int .i64 0) (by kernel_rfl) rfl (by decide) rfl
instance : SlcC Try.prog 26 52 12 24 (frv zf) := ⟨tBook⟩
instance : SlcC Try.prog 22 51 12 24 (frv zf) := ⟨tRawS⟩
instance : SlcC Try.prog 37 2 1 8 [.int .i64 0] := ⟨tI64S⟩
end Go.Proofs.Ytmfgbkmkcljciaa
