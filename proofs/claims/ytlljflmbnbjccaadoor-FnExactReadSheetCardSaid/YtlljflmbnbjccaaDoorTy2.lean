/- More types of this program; no condition. -/
import Derived.Test.YtlljflmbnbjccaaDoorTy
import Derived.Test.YtlljflmbnbjccaaDoorEnc
namespace Go.Proofs.YtlljflmbnbjccaaDoor
open Go.RowKit
theorem frv_len12 (f : List Nat) (h : f.length = 12) : (frv f).length = 12 := by rw [frv_length, h]
theorem tU8 : OneT Tryd.prog 5 (.int .u8 0) := oneT_of Tryd.underlying5 rfl (by kernel_rfl) rfl
theorem tShot : AggT Tryd.prog 37 2 [.int .i8 0, .int .i8 0] := aggT_of Tryd.underlying37 rfl (by kernel_rfl)
theorem tLShot : AggT Tryd.prog 39 2 [.int .i8 0, .int .i8 0] := aggT_of Tryd.underlying39 rfl (by kernel_rfl)
theorem tShotS : SlcT Tryd.prog 25 37 2 2 [.int .i8 0, .int .i8 0] := slcT_of Tryd.underlying25 (.agg #[.int .i8 0, .int .i8 0]) (by kernel_rfl) rfl (by decide) rfl
theorem tLShotS : SlcT Tryd.prog 22 39 2 2 [.int .i8 0, .int .i8 0] := slcT_of Tryd.underlying22 (.agg #[.int .i8 0, .int .i8 0]) (by kernel_rfl) rfl (by decide) rfl
instance : AggC Tryd.prog 37 2 [.int .i8 0, .int .i8 0] := ⟨tShot⟩
instance : AggC Tryd.prog 39 2 [.int .i8 0, .int .i8 0] := ⟨tLShot⟩
instance : SlcC Tryd.prog 25 37 2 2 [.int .i8 0, .int .i8 0] := ⟨tShotS⟩
instance : SlcC Tryd.prog 22 39 2 2 [.int .i8 0, .int .i8 0] := ⟨tLShotS⟩
end Go.Proofs.YtlljflmbnbjccaaDoor
