/- More types of this program; no condition. -/
import Derived.Test.YtlljflmbnbjccaaTy
import Derived.Test.YtlljflmbnbjccaaEnc
namespace Go.Proofs.Ytlljflmbnbjccaa
open Go.RowKit
theorem frv_len12 (f : List Nat) (h : f.length = 12) : (frv f).length = 12 := by rw [frv_length, h]
theorem tU8 : OneT Try.prog 5 (.int .u8 0) := oneT_of Try.underlying5 rfl (by kernel_rfl) rfl
theorem tShot : AggT Try.prog 61 2 [.int .i8 0, .int .i8 0] := aggT_of Try.underlying61 rfl (by kernel_rfl)
theorem tLShot : AggT Try.prog 63 2 [.int .i8 0, .int .i8 0] := aggT_of Try.underlying63 rfl (by kernel_rfl)
theorem tBook : SlcT Try.prog 28 57 12 24 (frv zf) := slcT_of Try.underlying28 (.agg (frv zf).toArray) (by kernel_rfl) rfl (by decide) rfl
theorem tRawS : SlcT Try.prog 22 56 12 24 (frv zf) := slcT_of Try.underlying22 (.agg (frv zf).toArray) (by kernel_rfl) rfl (by decide) rfl
theorem tI64S : SlcT Try.prog 46 2 1 8 [.int .i64 0] := slcT_of Try.underlying46 (.int .i64 0) (by kernel_rfl) rfl (by decide) rfl
theorem tShotS : SlcT Try.prog 30 61 2 2 [.int .i8 0, .int .i8 0] := slcT_of Try.underlying30 (.agg #[.int .i8 0, .int .i8 0]) (by kernel_rfl) rfl (by decide) rfl
theorem tLShotS : SlcT Try.prog 23 63 2 2 [.int .i8 0, .int .i8 0] := slcT_of Try.underlying23 (.agg #[.int .i8 0, .int .i8 0]) (by kernel_rfl) rfl (by decide) rfl
instance : AggC Try.prog 61 2 [.int .i8 0, .int .i8 0] := ⟨tShot⟩
instance : AggC Try.prog 63 2 [.int .i8 0, .int .i8 0] := ⟨tLShot⟩
instance : SlcC Try.prog 28 57 12 24 (frv zf) := ⟨tBook⟩
instance : SlcC Try.prog 22 56 12 24 (frv zf) := ⟨tRawS⟩
instance : SlcC Try.prog 46 2 1 8 [.int .i64 0] := ⟨tI64S⟩
instance : SlcC Try.prog 30 61 2 2 [.int .i8 0, .int .i8 0] := ⟨tShotS⟩
instance : SlcC Try.prog 23 63 2 2 [.int .i8 0, .int .i8 0] := ⟨tLShotS⟩
end Go.Proofs.Ytlljflmbnbjccaa
