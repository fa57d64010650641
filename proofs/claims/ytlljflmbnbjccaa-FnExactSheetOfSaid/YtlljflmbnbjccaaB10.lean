/- In how many places two frames differ; no condition. -/
import Derived.Test.YtlljflmbnbjccaaB9
namespace Go.Proofs.Ytlljflmbnbjccaa
open Go.RowKit
set_option linter.unusedSimpArgs false
set_option linter.unusedVariables false

theorem mixX_frOk {f g : List Nat} (okf : FrOk f) (okg : FrOk g) : FrOk (mixR (fun a b => a ^^^ b) f g) := rowsOf_ok fun y _ => Nat.xor_lt_two_pow (n := 16) (okf.ro_lt y) (okg.ro_lt y)
theorem mixX_ok {f g : List Nat} (hf : okB f = true) (hg : okB g = true) : okB (mixR (fun a b => a ^^^ b) f g) = true := by
  apply okB_of
  intro y hy
  rw [mixR_length] at hy
  unfold mixR
  rw [ro_rowsOf _ _ hy]
  have : ro f y ^^^ ro g y < 4096 := Nat.xor_lt_two_pow (n := 12) (okB_ro hf y) (okB_ro hg y)
  simp only
  omega
/-- In how many places f and g differ, if both are valid. -/
def difR (f g : List Nat) : Int := if codeG f g = 0 then ((dots (mixR (fun a b => a ^^^ b) f g)).length : Int) else 0
end Go.Proofs.Ytlljflmbnbjccaa
