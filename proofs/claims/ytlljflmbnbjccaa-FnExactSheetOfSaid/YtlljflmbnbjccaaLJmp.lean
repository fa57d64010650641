/- The law JumpsOf: what it answers; no condition. -/
import Derived.Test.YtlljflmbnbjccaaJmp
import Derived.Test.YtlljflmbnbjccaaI64b
namespace Go.Proofs.Ytlljflmbnbjccaa
open Go.RowKit
set_option linter.unusedSimpArgs false
set_option linter.unusedVariables false
def IntsCode (R : List Int) (n : Nat) (code : Int) (nilOk : Prop) (w : World) (e : Ending) (w' : World) : Prop := ∃ v, e = .returned (.tuple #[v, .int .i64 code]) ∧ SlOut 2 1 n (encs i1 R) nilOk w v w' ∧ Keep [] w w'
def okC (B : List Fm) : Int := if bkB B = true then 0 else 1
def jmpR (B : List Fm) : List Int := if bkB B = true then jmpL B else []
end Go.Proofs.Ytlljflmbnbjccaa
