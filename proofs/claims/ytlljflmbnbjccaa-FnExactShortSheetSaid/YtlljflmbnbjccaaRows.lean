/-
  No cell of these rows narrows 'for every input' (looked for: loops, veiled, ifaces, maps, wideKeys, modest, calm, conditions, laid).
  DERIVED. THE GIVEN ROWS OF THIS SEAT. 8 by the template 'for every input the law returns true; each argument reads behind the call as it read before'; 0 by the template 'total and deterministic' (their statements: YtlljflmbnbjccaaTotals.lean).
  GIVEN WITH THE SEED: the statements are not yours to turn. If you find one false, say at which input.
  Laid BY PROGRAM, IN A SANDBOX (cutbox-rows.mjs): the forced cells as the released guide's own fill.sh prints them over the translation 0194e2cde2c56514… (all of the seat's roots in one cut). By AI agents, Wed Nov 11 2026. No macro, syntax, notation, axiom, sorry.
-/
import Derived.Test.YtlljflmbnbjccaaChecked
import GoSem.Claim
import GoSem.ClaimJoined
import GoSem.ClaimMapViews
import Derived.JoinedTies
import Derived.KernelRfl
namespace Go.Proofs.Ytlljflmbnbjccaa
/- THE CELL 'sum', in the pinned program and in every row, IS THE sha256 OF THE DUMP (.gsa) THAT YtlljflmbnbjccaaProg.lean LOADS. Nothing in Lean hashes anything: it is a label: what it is worth is what the hold of that sum in a sandbox is worth. -/
noncomputable def Try.pinned : Pinned := { name := "ytlljflmbnbjccaa", sum := "0194e2cde2c565146aa833527052139725f2ad845ae86fd3ad080f82137f4f40", checked := Try.checked }
namespace Rows
def none {H : Type} : Left H := { results := [], args := [] }

/-- 'laws.FnExactValidSheet': WHATEVER THE INPUT: true; the input reads as it did. -/
def fnExactValidSheetSpec : ChangeSpec := { name := "fnExactValidSheet", fn := fun _ => fun
  | [d1, d2] => { results := [.lit (.bool true)], args := [d1, d2] }
  | _ => none }
def fnExactValidSheetRow : OpenClaim := { program := "ytlljflmbnbjccaa", sum := "0194e2cde2c565146aa833527052139725f2ad845ae86fd3ad080f82137f4f40", func := "loop.example/g01340/laws.FnExactValidSheet", spec := "fnExactValidSheet", unfollowed := true, recurses := true, apart := false }
def FnExactValidSheetSaid : Prop := fnExactValidSheetRow.holds Try.pinned (OpenSpec.ofChange fnExactValidSheetSpec)

/-- ITS FALSE NEIGHBOUR: 'it returns false'. Refute it at one input. -/
def fnExactValidSheetWrong : ChangeSpec := { name := "fnExactValidSheet", fn := fun _ => fun
  | [d1, d2] => { results := [.lit (.bool false)], args := [d1, d2] }
  | _ => none }
def FnExactValidSheetWrongFalsely : Prop := fnExactValidSheetRow.holds Try.pinned (OpenSpec.ofChange fnExactValidSheetWrong)

/-- 'laws.FnExactSheetOf': WHATEVER THE INPUT: true; the input reads as it did. -/
def fnExactSheetOfSpec : ChangeSpec := { name := "fnExactSheetOf", fn := fun _ => fun
  | [d] => { results := [.lit (.bool true)], args := [d] }
  | _ => none }
def fnExactSheetOfRow : OpenClaim := { program := "ytlljflmbnbjccaa", sum := "0194e2cde2c565146aa833527052139725f2ad845ae86fd3ad080f82137f4f40", func := "loop.example/g01340/laws.FnExactSheetOf", spec := "fnExactSheetOf", unfollowed := true, recurses := true, apart := false }
def FnExactSheetOfSaid : Prop := fnExactSheetOfRow.holds Try.pinned (OpenSpec.ofChange fnExactSheetOfSpec)

/-- ITS FALSE NEIGHBOUR: 'it returns false'. Refute it at one input. -/
def fnExactSheetOfWrong : ChangeSpec := { name := "fnExactSheetOf", fn := fun _ => fun
  | [d] => { results := [.lit (.bool false)], args := [d] }
  | _ => none }
def FnExactSheetOfWrongFalsely : Prop := fnExactSheetOfRow.holds Try.pinned (OpenSpec.ofChange fnExactSheetOfWrong)

/-- 'laws.FnExactStretchSheet': WHATEVER THE INPUT: true; the input reads as it did. -/
def fnExactStretchSheetSpec : ChangeSpec := { name := "fnExactStretchSheet", fn := fun _ => fun
  | [d1, d2, d3, d4] => { results := [.lit (.bool true)], args := [d1, d2, d3, d4] }
  | _ => none }
def fnExactStretchSheetRow : OpenClaim := { program := "ytlljflmbnbjccaa", sum := "0194e2cde2c565146aa833527052139725f2ad845ae86fd3ad080f82137f4f40", func := "loop.example/g01340/laws.FnExactStretchSheet", spec := "fnExactStretchSheet", unfollowed := true, recurses := true, apart := false }
def FnExactStretchSheetSaid : Prop := fnExactStretchSheetRow.holds Try.pinned (OpenSpec.ofChange fnExactStretchSheetSpec)

/-- ITS FALSE NEIGHBOUR: 'it returns false'. Refute it at one input. -/
def fnExactStretchSheetWrong : ChangeSpec := { name := "fnExactStretchSheet", fn := fun _ => fun
  | [d1, d2, d3, d4] => { results := [.lit (.bool false)], args := [d1, d2, d3, d4] }
  | _ => none }
def FnExactStretchSheetWrongFalsely : Prop := fnExactStretchSheetRow.holds Try.pinned (OpenSpec.ofChange fnExactStretchSheetWrong)

/-- 'laws.FnExactSheetLength': WHATEVER THE INPUT: true; the input reads as it did. -/
def fnExactSheetLengthSpec : ChangeSpec := { name := "fnExactSheetLength", fn := fun _ => fun
  | [d1, d2] => { results := [.lit (.bool true)], args := [d1, d2] }
  | _ => none }
def fnExactSheetLengthRow : OpenClaim := { program := "ytlljflmbnbjccaa", sum := "0194e2cde2c565146aa833527052139725f2ad845ae86fd3ad080f82137f4f40", func := "loop.example/g01340/laws.FnExactSheetLength", spec := "fnExactSheetLength", unfollowed := true, recurses := true, apart := false }
def FnExactSheetLengthSaid : Prop := fnExactSheetLengthRow.holds Try.pinned (OpenSpec.ofChange fnExactSheetLengthSpec)

/-- ITS FALSE NEIGHBOUR: 'it returns false'. Refute it at one input. -/
def fnExactSheetLengthWrong : ChangeSpec := { name := "fnExactSheetLength", fn := fun _ => fun
  | [d1, d2] => { results := [.lit (.bool false)], args := [d1, d2] }
  | _ => none }
def FnExactSheetLengthWrongFalsely : Prop := fnExactSheetLengthRow.holds Try.pinned (OpenSpec.ofChange fnExactSheetLengthWrong)

/-- 'laws.FnExactPageAt': WHATEVER THE INPUT: true; the input reads as it did. -/
def fnExactPageAtSpec : ChangeSpec := { name := "fnExactPageAt", fn := fun _ => fun
  | [d1, d2, d3] => { results := [.lit (.bool true)], args := [d1, d2, d3] }
  | _ => none }
def fnExactPageAtRow : OpenClaim := { program := "ytlljflmbnbjccaa", sum := "0194e2cde2c565146aa833527052139725f2ad845ae86fd3ad080f82137f4f40", func := "loop.example/g01340/laws.FnExactPageAt", spec := "fnExactPageAt", unfollowed := true, recurses := true, apart := false }
def FnExactPageAtSaid : Prop := fnExactPageAtRow.holds Try.pinned (OpenSpec.ofChange fnExactPageAtSpec)

/-- ITS FALSE NEIGHBOUR: 'it returns false'. Refute it at one input. -/
def fnExactPageAtWrong : ChangeSpec := { name := "fnExactPageAt", fn := fun _ => fun
  | [d1, d2, d3] => { results := [.lit (.bool false)], args := [d1, d2, d3] }
  | _ => none }
def FnExactPageAtWrongFalsely : Prop := fnExactPageAtRow.holds Try.pinned (OpenSpec.ofChange fnExactPageAtWrong)

/-- 'laws.FnExactShownFor': WHATEVER THE INPUT: true; the input reads as it did. -/
def fnExactShownForSpec : ChangeSpec := { name := "fnExactShownFor", fn := fun _ => fun
  | [d1, d2] => { results := [.lit (.bool true)], args := [d1, d2] }
  | _ => none }
def fnExactShownForRow : OpenClaim := { program := "ytlljflmbnbjccaa", sum := "0194e2cde2c565146aa833527052139725f2ad845ae86fd3ad080f82137f4f40", func := "loop.example/g01340/laws.FnExactShownFor", spec := "fnExactShownFor", unfollowed := true, recurses := true, apart := false }
def FnExactShownForSaid : Prop := fnExactShownForRow.holds Try.pinned (OpenSpec.ofChange fnExactShownForSpec)

/-- ITS FALSE NEIGHBOUR: 'it returns false'. Refute it at one input. -/
def fnExactShownForWrong : ChangeSpec := { name := "fnExactShownFor", fn := fun _ => fun
  | [d1, d2] => { results := [.lit (.bool false)], args := [d1, d2] }
  | _ => none }
def FnExactShownForWrongFalsely : Prop := fnExactShownForRow.holds Try.pinned (OpenSpec.ofChange fnExactShownForWrong)

/-- 'laws.FnExactPlaySheet': WHATEVER THE INPUT: true; the input reads as it did. -/
def fnExactPlaySheetSpec : ChangeSpec := { name := "fnExactPlaySheet", fn := fun _ => fun
  | [d1, d2] => { results := [.lit (.bool true)], args := [d1, d2] }
  | _ => none }
def fnExactPlaySheetRow : OpenClaim := { program := "ytlljflmbnbjccaa", sum := "0194e2cde2c565146aa833527052139725f2ad845ae86fd3ad080f82137f4f40", func := "loop.example/g01340/laws.FnExactPlaySheet", spec := "fnExactPlaySheet", unfollowed := true, recurses := true, apart := false }
def FnExactPlaySheetSaid : Prop := fnExactPlaySheetRow.holds Try.pinned (OpenSpec.ofChange fnExactPlaySheetSpec)

/-- ITS FALSE NEIGHBOUR: 'it returns false'. Refute it at one input. -/
def fnExactPlaySheetWrong : ChangeSpec := { name := "fnExactPlaySheet", fn := fun _ => fun
  | [d1, d2] => { results := [.lit (.bool false)], args := [d1, d2] }
  | _ => none }
def FnExactPlaySheetWrongFalsely : Prop := fnExactPlaySheetRow.holds Try.pinned (OpenSpec.ofChange fnExactPlaySheetWrong)

/-- 'laws.FnExactShortSheet': WHATEVER THE INPUT: true; the input reads as it did. -/
def fnExactShortSheetSpec : ChangeSpec := { name := "fnExactShortSheet", fn := fun _ => fun
  | [d1, d2] => { results := [.lit (.bool true)], args := [d1, d2] }
  | _ => none }
def fnExactShortSheetRow : OpenClaim := { program := "ytlljflmbnbjccaa", sum := "0194e2cde2c565146aa833527052139725f2ad845ae86fd3ad080f82137f4f40", func := "loop.example/g01340/laws.FnExactShortSheet", spec := "fnExactShortSheet", unfollowed := true, recurses := true, apart := false }
def FnExactShortSheetSaid : Prop := fnExactShortSheetRow.holds Try.pinned (OpenSpec.ofChange fnExactShortSheetSpec)

/-- ITS FALSE NEIGHBOUR: 'it returns false'. Refute it at one input. -/
def fnExactShortSheetWrong : ChangeSpec := { name := "fnExactShortSheet", fn := fun _ => fun
  | [d1, d2] => { results := [.lit (.bool false)], args := [d1, d2] }
  | _ => none }
def FnExactShortSheetWrongFalsely : Prop := fnExactShortSheetRow.holds Try.pinned (OpenSpec.ofChange fnExactShortSheetWrong)

/- THE SECOND FORM. 'bulk': how many values and letters a reading holds, each counted each time it is reached (what is shared counts as often as it is met; a slice's spare places count too). A statement '..UptoSaid' is the law's where the arguments, and the package variables that the reading takes, are together of bulk at most 1048576: NARROWER than '..Said'. Prove '..Said' where nothing that the law and all that it calls make is longer than what came in: it says more and counts as full. Else prove '..UptoSaid'. A law counts once. -/
mutual
def uptoBulk {H : Type} : DataW H → Nat
  | .lit (.string bytes) => bytes.length + 1
  | .lit _ => 1
  | .nil => 1
  | .ptr d => uptoBulk d + 1
  | .slice elems spare => uptoBulkAll elems + uptoBulkAll spare + 1
  | .agg parts => uptoBulkAll parts + 1
  | .iface _ d => uptoBulk d + 1
  | .map entries => uptoBulkEntries entries + 1
  | .held _ => 1
def uptoBulkAll {H : Type} : List (DataW H) → Nat
  | [] => 0
  | d :: r => uptoBulk d + uptoBulkAll r
def uptoBulkEntries {H : Type} : List (Lit × DataW H) → Nat
  | [] => 0
  | x :: r => uptoBulkEntry x + uptoBulkEntries r
def uptoBulkEntry {H : Type} : Lit × DataW H → Nat
  | (.string bytes, d) => bytes.length + uptoBulk d + 1
  | (_, d) => uptoBulk d + 1
 end
def uptoSmall : (H : Type) → List (DataW H) → Bool := fun _ ds => decide (uptoBulkAll ds ≤ 1048576)
def OpenSpec.upto (s : _root_.Go.ChangeSpec) : _root_.Go.OpenSpec := { _root_.Go.OpenSpec.ofChange s with cond := some uptoSmall }

/-- 'laws.FnExactValidSheet', WHERE WHAT IT READS IS OF BULK AT MOST 1048576: true; the input reads as it did. -/
def fnExactValidSheetUptoRow : OpenClaim := { program := "ytlljflmbnbjccaa", sum := "0194e2cde2c565146aa833527052139725f2ad845ae86fd3ad080f82137f4f40", func := "loop.example/g01340/laws.FnExactValidSheet", spec := "fnExactValidSheet", unfollowed := true, recurses := true, apart := false, narrowed := true }
def FnExactValidSheetUptoSaid : Prop := fnExactValidSheetUptoRow.holds Try.pinned (OpenSpec.upto fnExactValidSheetSpec)

/-- 'laws.FnExactSheetOf', WHERE WHAT IT READS IS OF BULK AT MOST 1048576: true; the input reads as it did. -/
def fnExactSheetOfUptoRow : OpenClaim := { program := "ytlljflmbnbjccaa", sum := "0194e2cde2c565146aa833527052139725f2ad845ae86fd3ad080f82137f4f40", func := "loop.example/g01340/laws.FnExactSheetOf", spec := "fnExactSheetOf", unfollowed := true, recurses := true, apart := false, narrowed := true }
def FnExactSheetOfUptoSaid : Prop := fnExactSheetOfUptoRow.holds Try.pinned (OpenSpec.upto fnExactSheetOfSpec)

/-- 'laws.FnExactStretchSheet', WHERE WHAT IT READS IS OF BULK AT MOST 1048576: true; the input reads as it did. -/
def fnExactStretchSheetUptoRow : OpenClaim := { program := "ytlljflmbnbjccaa", sum := "0194e2cde2c565146aa833527052139725f2ad845ae86fd3ad080f82137f4f40", func := "loop.example/g01340/laws.FnExactStretchSheet", spec := "fnExactStretchSheet", unfollowed := true, recurses := true, apart := false, narrowed := true }
def FnExactStretchSheetUptoSaid : Prop := fnExactStretchSheetUptoRow.holds Try.pinned (OpenSpec.upto fnExactStretchSheetSpec)

/-- 'laws.FnExactSheetLength', WHERE WHAT IT READS IS OF BULK AT MOST 1048576: true; the input reads as it did. -/
def fnExactSheetLengthUptoRow : OpenClaim := { program := "ytlljflmbnbjccaa", sum := "0194e2cde2c565146aa833527052139725f2ad845ae86fd3ad080f82137f4f40", func := "loop.example/g01340/laws.FnExactSheetLength", spec := "fnExactSheetLength", unfollowed := true, recurses := true, apart := false, narrowed := true }
def FnExactSheetLengthUptoSaid : Prop := fnExactSheetLengthUptoRow.holds Try.pinned (OpenSpec.upto fnExactSheetLengthSpec)

/-- 'laws.FnExactPageAt', WHERE WHAT IT READS IS OF BULK AT MOST 1048576: true; the input reads as it did. -/
def fnExactPageAtUptoRow : OpenClaim := { program := "ytlljflmbnbjccaa", sum := "0194e2cde2c565146aa833527052139725f2ad845ae86fd3ad080f82137f4f40", func := "loop.example/g01340/laws.FnExactPageAt", spec := "fnExactPageAt", unfollowed := true, recurses := true, apart := false, narrowed := true }
def FnExactPageAtUptoSaid : Prop := fnExactPageAtUptoRow.holds Try.pinned (OpenSpec.upto fnExactPageAtSpec)

/-- 'laws.FnExactShownFor', WHERE WHAT IT READS IS OF BULK AT MOST 1048576: true; the input reads as it did. -/
def fnExactShownForUptoRow : OpenClaim := { program := "ytlljflmbnbjccaa", sum := "0194e2cde2c565146aa833527052139725f2ad845ae86fd3ad080f82137f4f40", func := "loop.example/g01340/laws.FnExactShownFor", spec := "fnExactShownFor", unfollowed := true, recurses := true, apart := false, narrowed := true }
def FnExactShownForUptoSaid : Prop := fnExactShownForUptoRow.holds Try.pinned (OpenSpec.upto fnExactShownForSpec)

/-- 'laws.FnExactPlaySheet', WHERE WHAT IT READS IS OF BULK AT MOST 1048576: true; the input reads as it did. -/
def fnExactPlaySheetUptoRow : OpenClaim := { program := "ytlljflmbnbjccaa", sum := "0194e2cde2c565146aa833527052139725f2ad845ae86fd3ad080f82137f4f40", func := "loop.example/g01340/laws.FnExactPlaySheet", spec := "fnExactPlaySheet", unfollowed := true, recurses := true, apart := false, narrowed := true }
def FnExactPlaySheetUptoSaid : Prop := fnExactPlaySheetUptoRow.holds Try.pinned (OpenSpec.upto fnExactPlaySheetSpec)

/-- 'laws.FnExactShortSheet', WHERE WHAT IT READS IS OF BULK AT MOST 1048576: true; the input reads as it did. -/
def fnExactShortSheetUptoRow : OpenClaim := { program := "ytlljflmbnbjccaa", sum := "0194e2cde2c565146aa833527052139725f2ad845ae86fd3ad080f82137f4f40", func := "loop.example/g01340/laws.FnExactShortSheet", spec := "fnExactShortSheet", unfollowed := true, recurses := true, apart := false, narrowed := true }
def FnExactShortSheetUptoSaid : Prop := fnExactShortSheetUptoRow.holds Try.pinned (OpenSpec.upto fnExactShortSheetSpec)

end Rows
end Go.Proofs.Ytlljflmbnbjccaa
