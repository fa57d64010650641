/- More types of this program; no condition. -/
import Derived.Test.YtmfgbkmkcljciaaDoorTy
import Derived.Test.YtmfgbkmkcljciaaDoorEnc
namespace Go.Proofs.YtmfgbkmkcljciaaDoor
open Go.RowKit
theorem frv_len12 (f : List Nat) (h : f.length = 12) : (frv f).length = 12 := by rw [frv_length, h]
theorem tU8 : OneT Tryd.prog 5 (.int .u8 0) := oneT_of Tryd.underlying5 rfl (by kernel_rfl) rfl
theorem tBook : SlcT Tryd.prog 23 33 12 24 (frv zf) := slcT_of Tryd.underlying23 (.agg (frv zf).toArray) (by kernel_rfl) rfl (by decide) rfl
instance : SlcC Tryd.prog 23 33 12 24 (frv zf) := ⟨tBook⟩
end Go.Proofs.YtmfgbkmkcljciaaDoor
