/- More types of this program; no condition. -/
import Derived.Test.YtmndbmapepenjaaTy
import Derived.Test.YtmndbmapepenjaaEnc
namespace Go.Proofs.Ytmndbmapepenjaa
open Go.RowKit
theorem frv_len12 (f : List Nat) (h : f.length = 12) : (frv f).length = 12 := by rw [frv_length, h]
theorem tI16 : OneT Try.prog 67 (.int .i16 0) := oneT_of Try.underlying67 rfl (by kernel_rfl) rfl
theorem tU8 : OneT Try.prog 5 (.int .u8 0) := oneT_of Try.underlying5 rfl (by kernel_rfl) rfl
theorem tKey : AggT Try.prog 69 3 [.int .i16 0, .int .i8 0, .int .i8 0] := aggT_of Try.underlying69 rfl (by kernel_rfl)
theorem tLKey : AggT Try.prog 72 3 [.int .i16 0, .int .i8 0, .int .i8 0] := aggT_of Try.underlying72 rfl (by kernel_rfl)
theorem tBook : SlcT Try.prog 51 44 12 24 (frv zf) := slcT_of Try.underlying51 (.agg (frv zf).toArray) (by kernel_rfl) rfl (by decide) rfl
theorem tTrack : SlcT Try.prog 26 69 3 4 [.int .i16 0, .int .i8 0, .int .i8 0] := slcT_of Try.underlying26 (.agg #[.int .i16 0, .int .i8 0, .int .i8 0]) (by kernel_rfl) rfl (by decide) rfl
theorem tLKeyS : SlcT Try.prog 22 72 3 4 [.int .i16 0, .int .i8 0, .int .i8 0] := slcT_of Try.underlying22 (.agg #[.int .i16 0, .int .i8 0, .int .i8 0]) (by kernel_rfl) rfl (by decide) rfl
instance : AggC Try.prog 69 3 [.int .i16 0, .int .i8 0, .int .i8 0] := ⟨tKey⟩
instance : AggC Try.prog 72 3 [.int .i16 0, .int .i8 0, .int .i8 0] := ⟨tLKey⟩
instance : SlcC Try.prog 51 44 12 24 (frv zf) := ⟨tBook⟩
instance : SlcC Try.prog 26 69 3 4 [.int .i16 0, .int .i8 0, .int .i8 0] := ⟨tTrack⟩
instance : SlcC Try.prog 22 72 3 4 [.int .i16 0, .int .i8 0, .int .i8 0] := ⟨tLKeyS⟩
end Go.Proofs.Ytmndbmapepenjaa
