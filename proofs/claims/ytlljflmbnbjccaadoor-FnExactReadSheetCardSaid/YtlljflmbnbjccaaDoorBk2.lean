/- Books and lists of numbers marked and looked at again; no condition. -/
import Derived.Test.YtlljflmbnbjccaaDoorBk
namespace Go.Proofs.YtlljflmbnbjccaaDoor
open Go.RowKit
set_option linter.unusedSimpArgs false
set_option linter.unusedVariables false

/-- The mark of cell m. -/
def mkF (k0 m : Nat) : Value := .int .u16 (IntKind.u16.wrap ((k0 : Int) + (m : Int)))
theorem mkF_at (k0 m : Nat) (i : Int) (h : i = (k0 : Int) + (m : Int)) : Value.int .u16 (IntKind.u16.wrap i) = mkF k0 m := by rw [h]; rfl
end Go.Proofs.YtlljflmbnbjccaaDoor
