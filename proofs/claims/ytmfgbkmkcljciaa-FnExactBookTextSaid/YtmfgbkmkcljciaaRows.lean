/-
  No cell of these rows narrows 'for every input' (looked for: loops, veiled, ifaces, maps, wideKeys, modest, calm, conditions, laid).
  DERIVED. THE GIVEN ROWS OF THIS SEAT. 14 by the template 'for every input the law returns true; each argument reads behind the call as it read before'; 0 by the template 'total and deterministic' (their statements: YtmfgbkmkcljciaaTotals.lean).
  GIVEN WITH THE SEED: the statements are not yours to turn. If you find one false, say at which input.
  Laid BY PROGRAM, IN A SANDBOX (cutbox-rows.mjs): the forced cells as the released guide's own fill.sh prints them over the translation eac428793bba63bd… (all of the seat's roots in one cut). By AI agents, Wed Nov 11 2026. No macro, syntax, notation, axiom, sorry.
-/
import Derived.Test.YtmfgbkmkcljciaaChecked
import GoSem.Claim
import GoSem.ClaimJoined
import GoSem.ClaimMapViews
import Derived.JoinedTies
import Derived.KernelRfl
namespace Go.Proofs.Ytmfgbkmkcljciaa
/- THE CELL 'sum', in the pinned program and in every row, IS THE sha256 OF THE DUMP (.gsa) THAT YtmfgbkmkcljciaaProg.lean LOADS. Nothing in Lean hashes anything: it is a label: what it is worth is what the hold of that sum in a sandbox is worth. -/
noncomputable def Try.pinned : Pinned := { name := "ytmfgbkmkcljciaa", sum := "eac428793bba63bdb4a6dfcedc7ff90a1993989191a47a9eb71609b49d7d0725", checked := Try.checked }
namespace Rows
def none {H : Type} : Left H := { results := [], args := [] }

/-- 'laws.FnExactSameBook': WHATEVER THE INPUT: true; the input reads as it did. -/
def fnExactSameBookSpec : ChangeSpec := { name := "fnExactSameBook", fn := fun _ => fun
  | [d1, d2] => { results := [.lit (.bool true)], args := [d1, d2] }
  | _ => none }
def fnExactSameBookRow : OpenClaim := { program := "ytmfgbkmkcljciaa", sum := "eac428793bba63bdb4a6dfcedc7ff90a1993989191a47a9eb71609b49d7d0725", func := "loop.example/g01340/laws.FnExactSameBook", spec := "fnExactSameBook", apart := false }
def FnExactSameBookSaid : Prop := fnExactSameBookRow.holds Try.pinned (OpenSpec.ofChange fnExactSameBookSpec)

/-- ITS FALSE NEIGHBOUR: 'it returns false'. Refute it at one input. -/
def fnExactSameBookWrong : ChangeSpec := { name := "fnExactSameBook", fn := fun _ => fun
  | [d1, d2] => { results := [.lit (.bool false)], args := [d1, d2] }
  | _ => none }
def FnExactSameBookWrongFalsely : Prop := fnExactSameBookRow.holds Try.pinned (OpenSpec.ofChange fnExactSameBookWrong)

/-- 'laws.FnExactValidBook': WHATEVER THE INPUT: true; the input reads as it did. -/
def fnExactValidBookSpec : ChangeSpec := { name := "fnExactValidBook", fn := fun _ => fun
  | [d] => { results := [.lit (.bool true)], args := [d] }
  | _ => none }
def fnExactValidBookRow : OpenClaim := { program := "ytmfgbkmkcljciaa", sum := "eac428793bba63bdb4a6dfcedc7ff90a1993989191a47a9eb71609b49d7d0725", func := "loop.example/g01340/laws.FnExactValidBook", spec := "fnExactValidBook", unfollowed := true, recurses := true, apart := false }
def FnExactValidBookSaid : Prop := fnExactValidBookRow.holds Try.pinned (OpenSpec.ofChange fnExactValidBookSpec)

/-- ITS FALSE NEIGHBOUR: 'it returns false'. Refute it at one input. -/
def fnExactValidBookWrong : ChangeSpec := { name := "fnExactValidBook", fn := fun _ => fun
  | [d] => { results := [.lit (.bool false)], args := [d] }
  | _ => none }
def FnExactValidBookWrongFalsely : Prop := fnExactValidBookRow.holds Try.pinned (OpenSpec.ofChange fnExactValidBookWrong)

/-- 'laws.FnExactCutBook': WHATEVER THE INPUT: true; the input reads as it did. -/
def fnExactCutBookSpec : ChangeSpec := { name := "fnExactCutBook", fn := fun _ => fun
  | [d1, d2, d3] => { results := [.lit (.bool true)], args := [d1, d2, d3] }
  | _ => none }
def fnExactCutBookRow : OpenClaim := { program := "ytmfgbkmkcljciaa", sum := "eac428793bba63bdb4a6dfcedc7ff90a1993989191a47a9eb71609b49d7d0725", func := "loop.example/g01340/laws.FnExactCutBook", spec := "fnExactCutBook", unfollowed := true, recurses := true, apart := false }
def FnExactCutBookSaid : Prop := fnExactCutBookRow.holds Try.pinned (OpenSpec.ofChange fnExactCutBookSpec)

/-- ITS FALSE NEIGHBOUR: 'it returns false'. Refute it at one input. -/
def fnExactCutBookWrong : ChangeSpec := { name := "fnExactCutBook", fn := fun _ => fun
  | [d1, d2, d3] => { results := [.lit (.bool false)], args := [d1, d2, d3] }
  | _ => none }
def FnExactCutBookWrongFalsely : Prop := fnExactCutBookRow.holds Try.pinned (OpenSpec.ofChange fnExactCutBookWrong)

/-- 'laws.FnExactEveryPage': WHATEVER THE INPUT: true; the input reads as it did. -/
def fnExactEveryPageSpec : ChangeSpec := { name := "fnExactEveryPage", fn := fun _ => fun
  | [d1, d2, d3] => { results := [.lit (.bool true)], args := [d1, d2, d3] }
  | _ => none }
def fnExactEveryPageRow : OpenClaim := { program := "ytmfgbkmkcljciaa", sum := "eac428793bba63bdb4a6dfcedc7ff90a1993989191a47a9eb71609b49d7d0725", func := "loop.example/g01340/laws.FnExactEveryPage", spec := "fnExactEveryPage", unfollowed := true, recurses := true, apart := false }
def FnExactEveryPageSaid : Prop := fnExactEveryPageRow.holds Try.pinned (OpenSpec.ofChange fnExactEveryPageSpec)

/-- ITS FALSE NEIGHBOUR: 'it returns false'. Refute it at one input. -/
def fnExactEveryPageWrong : ChangeSpec := { name := "fnExactEveryPage", fn := fun _ => fun
  | [d1, d2, d3] => { results := [.lit (.bool false)], args := [d1, d2, d3] }
  | _ => none }
def FnExactEveryPageWrongFalsely : Prop := fnExactEveryPageRow.holds Try.pinned (OpenSpec.ofChange fnExactEveryPageWrong)

/-- 'laws.FnExactBackBook': WHATEVER THE INPUT: true; the input reads as it did. -/
def fnExactBackBookSpec : ChangeSpec := { name := "fnExactBackBook", fn := fun _ => fun
  | [d] => { results := [.lit (.bool true)], args := [d] }
  | _ => none }
def fnExactBackBookRow : OpenClaim := { program := "ytmfgbkmkcljciaa", sum := "eac428793bba63bdb4a6dfcedc7ff90a1993989191a47a9eb71609b49d7d0725", func := "loop.example/g01340/laws.FnExactBackBook", spec := "fnExactBackBook", unfollowed := true, recurses := true, apart := false }
def FnExactBackBookSaid : Prop := fnExactBackBookRow.holds Try.pinned (OpenSpec.ofChange fnExactBackBookSpec)

/-- ITS FALSE NEIGHBOUR: 'it returns false'. Refute it at one input. -/
def fnExactBackBookWrong : ChangeSpec := { name := "fnExactBackBook", fn := fun _ => fun
  | [d] => { results := [.lit (.bool false)], args := [d] }
  | _ => none }
def FnExactBackBookWrongFalsely : Prop := fnExactBackBookRow.holds Try.pinned (OpenSpec.ofChange fnExactBackBookWrong)

/-- 'laws.FnExactToAndFro': WHATEVER THE INPUT: true; the input reads as it did. -/
def fnExactToAndFroSpec : ChangeSpec := { name := "fnExactToAndFro", fn := fun _ => fun
  | [d] => { results := [.lit (.bool true)], args := [d] }
  | _ => none }
def fnExactToAndFroRow : OpenClaim := { program := "ytmfgbkmkcljciaa", sum := "eac428793bba63bdb4a6dfcedc7ff90a1993989191a47a9eb71609b49d7d0725", func := "loop.example/g01340/laws.FnExactToAndFro", spec := "fnExactToAndFro", unfollowed := true, recurses := true, apart := false }
def FnExactToAndFroSaid : Prop := fnExactToAndFroRow.holds Try.pinned (OpenSpec.ofChange fnExactToAndFroSpec)

/-- ITS FALSE NEIGHBOUR: 'it returns false'. Refute it at one input. -/
def fnExactToAndFroWrong : ChangeSpec := { name := "fnExactToAndFro", fn := fun _ => fun
  | [d] => { results := [.lit (.bool false)], args := [d] }
  | _ => none }
def FnExactToAndFroWrongFalsely : Prop := fnExactToAndFroRow.holds Try.pinned (OpenSpec.ofChange fnExactToAndFroWrong)

/-- 'laws.FnExactJoinBooks': WHATEVER THE INPUT: true; the input reads as it did. -/
def fnExactJoinBooksSpec : ChangeSpec := { name := "fnExactJoinBooks", fn := fun _ => fun
  | [d1, d2] => { results := [.lit (.bool true)], args := [d1, d2] }
  | _ => none }
def fnExactJoinBooksRow : OpenClaim := { program := "ytmfgbkmkcljciaa", sum := "eac428793bba63bdb4a6dfcedc7ff90a1993989191a47a9eb71609b49d7d0725", func := "loop.example/g01340/laws.FnExactJoinBooks", spec := "fnExactJoinBooks", unfollowed := true, recurses := true, apart := false }
def FnExactJoinBooksSaid : Prop := fnExactJoinBooksRow.holds Try.pinned (OpenSpec.ofChange fnExactJoinBooksSpec)

/-- ITS FALSE NEIGHBOUR: 'it returns false'. Refute it at one input. -/
def fnExactJoinBooksWrong : ChangeSpec := { name := "fnExactJoinBooks", fn := fun _ => fun
  | [d1, d2] => { results := [.lit (.bool false)], args := [d1, d2] }
  | _ => none }
def FnExactJoinBooksWrongFalsely : Prop := fnExactJoinBooksRow.holds Try.pinned (OpenSpec.ofChange fnExactJoinBooksWrong)

/-- 'laws.FnExactRepeatsIn': WHATEVER THE INPUT: true; the input reads as it did. -/
def fnExactRepeatsInSpec : ChangeSpec := { name := "fnExactRepeatsIn", fn := fun _ => fun
  | [d] => { results := [.lit (.bool true)], args := [d] }
  | _ => none }
def fnExactRepeatsInRow : OpenClaim := { program := "ytmfgbkmkcljciaa", sum := "eac428793bba63bdb4a6dfcedc7ff90a1993989191a47a9eb71609b49d7d0725", func := "loop.example/g01340/laws.FnExactRepeatsIn", spec := "fnExactRepeatsIn", unfollowed := true, recurses := true, apart := false }
def FnExactRepeatsInSaid : Prop := fnExactRepeatsInRow.holds Try.pinned (OpenSpec.ofChange fnExactRepeatsInSpec)

/-- ITS FALSE NEIGHBOUR: 'it returns false'. Refute it at one input. -/
def fnExactRepeatsInWrong : ChangeSpec := { name := "fnExactRepeatsIn", fn := fun _ => fun
  | [d] => { results := [.lit (.bool false)], args := [d] }
  | _ => none }
def FnExactRepeatsInWrongFalsely : Prop := fnExactRepeatsInRow.holds Try.pinned (OpenSpec.ofChange fnExactRepeatsInWrong)

/-- 'laws.FnExactAllJumps': WHATEVER THE INPUT: true; the input reads as it did. -/
def fnExactAllJumpsSpec : ChangeSpec := { name := "fnExactAllJumps", fn := fun _ => fun
  | [d] => { results := [.lit (.bool true)], args := [d] }
  | _ => none }
def fnExactAllJumpsRow : OpenClaim := { program := "ytmfgbkmkcljciaa", sum := "eac428793bba63bdb4a6dfcedc7ff90a1993989191a47a9eb71609b49d7d0725", func := "loop.example/g01340/laws.FnExactAllJumps", spec := "fnExactAllJumps", unfollowed := true, recurses := true, apart := false }
def FnExactAllJumpsSaid : Prop := fnExactAllJumpsRow.holds Try.pinned (OpenSpec.ofChange fnExactAllJumpsSpec)

/-- ITS FALSE NEIGHBOUR: 'it returns false'. Refute it at one input. -/
def fnExactAllJumpsWrong : ChangeSpec := { name := "fnExactAllJumps", fn := fun _ => fun
  | [d] => { results := [.lit (.bool false)], args := [d] }
  | _ => none }
def FnExactAllJumpsWrongFalsely : Prop := fnExactAllJumpsRow.holds Try.pinned (OpenSpec.ofChange fnExactAllJumpsWrong)

/-- 'laws.FnExactLoopJumps': WHATEVER THE INPUT: true; the input reads as it did. -/
def fnExactLoopJumpsSpec : ChangeSpec := { name := "fnExactLoopJumps", fn := fun _ => fun
  | [d] => { results := [.lit (.bool true)], args := [d] }
  | _ => none }
def fnExactLoopJumpsRow : OpenClaim := { program := "ytmfgbkmkcljciaa", sum := "eac428793bba63bdb4a6dfcedc7ff90a1993989191a47a9eb71609b49d7d0725", func := "loop.example/g01340/laws.FnExactLoopJumps", spec := "fnExactLoopJumps", unfollowed := true, recurses := true, apart := false }
def FnExactLoopJumpsSaid : Prop := fnExactLoopJumpsRow.holds Try.pinned (OpenSpec.ofChange fnExactLoopJumpsSpec)

/-- ITS FALSE NEIGHBOUR: 'it returns false'. Refute it at one input. -/
def fnExactLoopJumpsWrong : ChangeSpec := { name := "fnExactLoopJumps", fn := fun _ => fun
  | [d] => { results := [.lit (.bool false)], args := [d] }
  | _ => none }
def FnExactLoopJumpsWrongFalsely : Prop := fnExactLoopJumpsRow.holds Try.pinned (OpenSpec.ofChange fnExactLoopJumpsWrong)

/-- 'laws.FnExactGreatestJump': WHATEVER THE INPUT: true; the input reads as it did. -/
def fnExactGreatestJumpSpec : ChangeSpec := { name := "fnExactGreatestJump", fn := fun _ => fun
  | [d] => { results := [.lit (.bool true)], args := [d] }
  | _ => none }
def fnExactGreatestJumpRow : OpenClaim := { program := "ytmfgbkmkcljciaa", sum := "eac428793bba63bdb4a6dfcedc7ff90a1993989191a47a9eb71609b49d7d0725", func := "loop.example/g01340/laws.FnExactGreatestJump", spec := "fnExactGreatestJump", unfollowed := true, recurses := true, apart := false }
def FnExactGreatestJumpSaid : Prop := fnExactGreatestJumpRow.holds Try.pinned (OpenSpec.ofChange fnExactGreatestJumpSpec)

/-- ITS FALSE NEIGHBOUR: 'it returns false'. Refute it at one input. -/
def fnExactGreatestJumpWrong : ChangeSpec := { name := "fnExactGreatestJump", fn := fun _ => fun
  | [d] => { results := [.lit (.bool false)], args := [d] }
  | _ => none }
def FnExactGreatestJumpWrongFalsely : Prop := fnExactGreatestJumpRow.holds Try.pinned (OpenSpec.ofChange fnExactGreatestJumpWrong)

/-- 'laws.FnExactJumpsOf': WHATEVER THE INPUT: true; the input reads as it did. -/
def fnExactJumpsOfSpec : ChangeSpec := { name := "fnExactJumpsOf", fn := fun _ => fun
  | [d] => { results := [.lit (.bool true)], args := [d] }
  | _ => none }
def fnExactJumpsOfRow : OpenClaim := { program := "ytmfgbkmkcljciaa", sum := "eac428793bba63bdb4a6dfcedc7ff90a1993989191a47a9eb71609b49d7d0725", func := "loop.example/g01340/laws.FnExactJumpsOf", spec := "fnExactJumpsOf", unfollowed := true, recurses := true, apart := false }
def FnExactJumpsOfSaid : Prop := fnExactJumpsOfRow.holds Try.pinned (OpenSpec.ofChange fnExactJumpsOfSpec)

/-- ITS FALSE NEIGHBOUR: 'it returns false'. Refute it at one input. -/
def fnExactJumpsOfWrong : ChangeSpec := { name := "fnExactJumpsOf", fn := fun _ => fun
  | [d] => { results := [.lit (.bool false)], args := [d] }
  | _ => none }
def FnExactJumpsOfWrongFalsely : Prop := fnExactJumpsOfRow.holds Try.pinned (OpenSpec.ofChange fnExactJumpsOfWrong)

/-- 'laws.FnExactDistinctPages': WHATEVER THE INPUT: true; the input reads as it did. -/
def fnExactDistinctPagesSpec : ChangeSpec := { name := "fnExactDistinctPages", fn := fun _ => fun
  | [d] => { results := [.lit (.bool true)], args := [d] }
  | _ => none }
def fnExactDistinctPagesRow : OpenClaim := { program := "ytmfgbkmkcljciaa", sum := "eac428793bba63bdb4a6dfcedc7ff90a1993989191a47a9eb71609b49d7d0725", func := "loop.example/g01340/laws.FnExactDistinctPages", spec := "fnExactDistinctPages", unfollowed := true, recurses := true, apart := false }
def FnExactDistinctPagesSaid : Prop := fnExactDistinctPagesRow.holds Try.pinned (OpenSpec.ofChange fnExactDistinctPagesSpec)

/-- ITS FALSE NEIGHBOUR: 'it returns false'. Refute it at one input. -/
def fnExactDistinctPagesWrong : ChangeSpec := { name := "fnExactDistinctPages", fn := fun _ => fun
  | [d] => { results := [.lit (.bool false)], args := [d] }
  | _ => none }
def FnExactDistinctPagesWrongFalsely : Prop := fnExactDistinctPagesRow.holds Try.pinned (OpenSpec.ofChange fnExactDistinctPagesWrong)

/-- 'laws.FnExactBookText': WHATEVER THE INPUT: true; the input reads as it did. -/
def fnExactBookTextSpec : ChangeSpec := { name := "fnExactBookText", fn := fun _ => fun
  | [d] => { results := [.lit (.bool true)], args := [d] }
  | _ => none }
def fnExactBookTextRow : OpenClaim := { program := "ytmfgbkmkcljciaa", sum := "eac428793bba63bdb4a6dfcedc7ff90a1993989191a47a9eb71609b49d7d0725", func := "loop.example/g01340/laws.FnExactBookText", spec := "fnExactBookText", inPlace := ["internal/abi.NoEscape", "internal/bytealg.MakeNoZero"], unfollowed := true, recurses := true, apart := false }
def FnExactBookTextSaid : Prop := fnExactBookTextRow.holds Try.pinned (OpenSpec.ofChange fnExactBookTextSpec)

/-- ITS FALSE NEIGHBOUR: 'it returns false'. Refute it at one input. -/
def fnExactBookTextWrong : ChangeSpec := { name := "fnExactBookText", fn := fun _ => fun
  | [d] => { results := [.lit (.bool false)], args := [d] }
  | _ => none }
def FnExactBookTextWrongFalsely : Prop := fnExactBookTextRow.holds Try.pinned (OpenSpec.ofChange fnExactBookTextWrong)

/- THE SECOND FORM. 'bulk': how many values and letters a reading holds, each counted each time it is reached (what is shared counts as often as it is met; a slice's spare places count too). A statement '..UptoSaid' is the law's where the arguments, and the package variables that the reading takes, are together of bulk at most 1048576: NARROWER than '..Said'. Prove '..Said' where nothing that the law and all that it calls make is longer than what came in: it says more and counts as full. Else prove '..UptoSaid'. A law counts once. -/
mutual
def uptoBulk {H : Type} : DataW H → Nat
  | .lit (.string bytes) => bytes.length + 1
  | .lit _ => 1
  | .nil => 1
  | .ptr d => uptoBulk d + 1
  | .slice elems spare => uptoBulkAll elems + uptoBulkAll spare + 1
  | .agg parts => uptoBulkAll parts + 1
  | .iface _ d => uptoBulk d + 1
  | .map entries => uptoBulkEntries entries + 1
  | .held _ => 1
def uptoBulkAll {H : Type} : List (DataW H) → Nat
  | [] => 0
  | d :: r => uptoBulk d + uptoBulkAll r
def uptoBulkEntries {H : Type} : List (Lit × DataW H) → Nat
  | [] => 0
  | x :: r => uptoBulkEntry x + uptoBulkEntries r
def uptoBulkEntry {H : Type} : Lit × DataW H → Nat
  | (.string bytes, d) => bytes.length + uptoBulk d + 1
  | (_, d) => uptoBulk d + 1
 end
def uptoSmall : (H : Type) → List (DataW H) → Bool := fun _ ds => decide (uptoBulkAll ds ≤ 1048576)
def OpenSpec.upto (s : _root_.Go.ChangeSpec) : _root_.Go.OpenSpec := { _root_.Go.OpenSpec.ofChange s with cond := some uptoSmall }

/-- 'laws.FnExactSameBook', WHERE WHAT IT READS IS OF BULK AT MOST 1048576: true; the input reads as it did. -/
def fnExactSameBookUptoRow : OpenClaim := { program := "ytmfgbkmkcljciaa", sum := "eac428793bba63bdb4a6dfcedc7ff90a1993989191a47a9eb71609b49d7d0725", func := "loop.example/g01340/laws.FnExactSameBook", spec := "fnExactSameBook", apart := false, narrowed := true }
def FnExactSameBookUptoSaid : Prop := fnExactSameBookUptoRow.holds Try.pinned (OpenSpec.upto fnExactSameBookSpec)

/-- 'laws.FnExactValidBook', WHERE WHAT IT READS IS OF BULK AT MOST 1048576: true; the input reads as it did. -/
def fnExactValidBookUptoRow : OpenClaim := { program := "ytmfgbkmkcljciaa", sum := "eac428793bba63bdb4a6dfcedc7ff90a1993989191a47a9eb71609b49d7d0725", func := "loop.example/g01340/laws.FnExactValidBook", spec := "fnExactValidBook", unfollowed := true, recurses := true, apart := false, narrowed := true }
def FnExactValidBookUptoSaid : Prop := fnExactValidBookUptoRow.holds Try.pinned (OpenSpec.upto fnExactValidBookSpec)

/-- 'laws.FnExactCutBook', WHERE WHAT IT READS IS OF BULK AT MOST 1048576: true; the input reads as it did. -/
def fnExactCutBookUptoRow : OpenClaim := { program := "ytmfgbkmkcljciaa", sum := "eac428793bba63bdb4a6dfcedc7ff90a1993989191a47a9eb71609b49d7d0725", func := "loop.example/g01340/laws.FnExactCutBook", spec := "fnExactCutBook", unfollowed := true, recurses := true, apart := false, narrowed := true }
def FnExactCutBookUptoSaid : Prop := fnExactCutBookUptoRow.holds Try.pinned (OpenSpec.upto fnExactCutBookSpec)

/-- 'laws.FnExactEveryPage', WHERE WHAT IT READS IS OF BULK AT MOST 1048576: true; the input reads as it did. -/
def fnExactEveryPageUptoRow : OpenClaim := { program := "ytmfgbkmkcljciaa", sum := "eac428793bba63bdb4a6dfcedc7ff90a1993989191a47a9eb71609b49d7d0725", func := "loop.example/g01340/laws.FnExactEveryPage", spec := "fnExactEveryPage", unfollowed := true, recurses := true, apart := false, narrowed := true }
def FnExactEveryPageUptoSaid : Prop := fnExactEveryPageUptoRow.holds Try.pinned (OpenSpec.upto fnExactEveryPageSpec)

/-- 'laws.FnExactBackBook', WHERE WHAT IT READS IS OF BULK AT MOST 1048576: true; the input reads as it did. -/
def fnExactBackBookUptoRow : OpenClaim := { program := "ytmfgbkmkcljciaa", sum := "eac428793bba63bdb4a6dfcedc7ff90a1993989191a47a9eb71609b49d7d0725", func := "loop.example/g01340/laws.FnExactBackBook", spec := "fnExactBackBook", unfollowed := true, recurses := true, apart := false, narrowed := true }
def FnExactBackBookUptoSaid : Prop := fnExactBackBookUptoRow.holds Try.pinned (OpenSpec.upto fnExactBackBookSpec)

/-- 'laws.FnExactToAndFro', WHERE WHAT IT READS IS OF BULK AT MOST 1048576: true; the input reads as it did. -/
def fnExactToAndFroUptoRow : OpenClaim := { program := "ytmfgbkmkcljciaa", sum := "eac428793bba63bdb4a6dfcedc7ff90a1993989191a47a9eb71609b49d7d0725", func := "loop.example/g01340/laws.FnExactToAndFro", spec := "fnExactToAndFro", unfollowed := true, recurses := true, apart := false, narrowed := true }
def FnExactToAndFroUptoSaid : Prop := fnExactToAndFroUptoRow.holds Try.pinned (OpenSpec.upto fnExactToAndFroSpec)

/-- 'laws.FnExactJoinBooks', WHERE WHAT IT READS IS OF BULK AT MOST 1048576: true; the input reads as it did. -/
def fnExactJoinBooksUptoRow : OpenClaim := { program := "ytmfgbkmkcljciaa", sum := "eac428793bba63bdb4a6dfcedc7ff90a1993989191a47a9eb71609b49d7d0725", func := "loop.example/g01340/laws.FnExactJoinBooks", spec := "fnExactJoinBooks", unfollowed := true, recurses := true, apart := false, narrowed := true }
def FnExactJoinBooksUptoSaid : Prop := fnExactJoinBooksUptoRow.holds Try.pinned (OpenSpec.upto fnExactJoinBooksSpec)

/-- 'laws.FnExactRepeatsIn', WHERE WHAT IT READS IS OF BULK AT MOST 1048576: true; the input reads as it did. -/
def fnExactRepeatsInUptoRow : OpenClaim := { program := "ytmfgbkmkcljciaa", sum := "eac428793bba63bdb4a6dfcedc7ff90a1993989191a47a9eb71609b49d7d0725", func := "loop.example/g01340/laws.FnExactRepeatsIn", spec := "fnExactRepeatsIn", unfollowed := true, recurses := true, apart := false, narrowed := true }
def FnExactRepeatsInUptoSaid : Prop := fnExactRepeatsInUptoRow.holds Try.pinned (OpenSpec.upto fnExactRepeatsInSpec)

/-- 'laws.FnExactAllJumps', WHERE WHAT IT READS IS OF BULK AT MOST 1048576: true; the input reads as it did. -/
def fnExactAllJumpsUptoRow : OpenClaim := { program := "ytmfgbkmkcljciaa", sum := "eac428793bba63bdb4a6dfcedc7ff90a1993989191a47a9eb71609b49d7d0725", func := "loop.example/g01340/laws.FnExactAllJumps", spec := "fnExactAllJumps", unfollowed := true, recurses := true, apart := false, narrowed := true }
def FnExactAllJumpsUptoSaid : Prop := fnExactAllJumpsUptoRow.holds Try.pinned (OpenSpec.upto fnExactAllJumpsSpec)

/-- 'laws.FnExactLoopJumps', WHERE WHAT IT READS IS OF BULK AT MOST 1048576: true; the input reads as it did. -/
def fnExactLoopJumpsUptoRow : OpenClaim := { program := "ytmfgbkmkcljciaa", sum := "eac428793bba63bdb4a6dfcedc7ff90a1993989191a47a9eb71609b49d7d0725", func := "loop.example/g01340/laws.FnExactLoopJumps", spec := "fnExactLoopJumps", unfollowed := true, recurses := true, apart := false, narrowed := true }
def FnExactLoopJumpsUptoSaid : Prop := fnExactLoopJumpsUptoRow.holds Try.pinned (OpenSpec.upto fnExactLoopJumpsSpec)

/-- 'laws.FnExactGreatestJump', WHERE WHAT IT READS IS OF BULK AT MOST 1048576: true; the input reads as it did. -/
def fnExactGreatestJumpUptoRow : OpenClaim := { program := "ytmfgbkmkcljciaa", sum := "eac428793bba63bdb4a6dfcedc7ff90a1993989191a47a9eb71609b49d7d0725", func := "loop.example/g01340/laws.FnExactGreatestJump", spec := "fnExactGreatestJump", unfollowed := true, recurses := true, apart := false, narrowed := true }
def FnExactGreatestJumpUptoSaid : Prop := fnExactGreatestJumpUptoRow.holds Try.pinned (OpenSpec.upto fnExactGreatestJumpSpec)

/-- 'laws.FnExactJumpsOf', WHERE WHAT IT READS IS OF BULK AT MOST 1048576: true; the input reads as it did. -/
def fnExactJumpsOfUptoRow : OpenClaim := { program := "ytmfgbkmkcljciaa", sum := "eac428793bba63bdb4a6dfcedc7ff90a1993989191a47a9eb71609b49d7d0725", func := "loop.example/g01340/laws.FnExactJumpsOf", spec := "fnExactJumpsOf", unfollowed := true, recurses := true, apart := false, narrowed := true }
def FnExactJumpsOfUptoSaid : Prop := fnExactJumpsOfUptoRow.holds Try.pinned (OpenSpec.upto fnExactJumpsOfSpec)

/-- 'laws.FnExactDistinctPages', WHERE WHAT IT READS IS OF BULK AT MOST 1048576: true; the input reads as it did. -/
def fnExactDistinctPagesUptoRow : OpenClaim := { program := "ytmfgbkmkcljciaa", sum := "eac428793bba63bdb4a6dfcedc7ff90a1993989191a47a9eb71609b49d7d0725", func := "loop.example/g01340/laws.FnExactDistinctPages", spec := "fnExactDistinctPages", unfollowed := true, recurses := true, apart := false, narrowed := true }
def FnExactDistinctPagesUptoSaid : Prop := fnExactDistinctPagesUptoRow.holds Try.pinned (OpenSpec.upto fnExactDistinctPagesSpec)

/-- 'laws.FnExactBookText', WHERE WHAT IT READS IS OF BULK AT MOST 1048576: true; the input reads as it did. -/
def fnExactBookTextUptoRow : OpenClaim := { program := "ytmfgbkmkcljciaa", sum := "eac428793bba63bdb4a6dfcedc7ff90a1993989191a47a9eb71609b49d7d0725", func := "loop.example/g01340/laws.FnExactBookText", spec := "fnExactBookText", inPlace := ["internal/abi.NoEscape", "internal/bytealg.MakeNoZero"], unfollowed := true, recurses := true, apart := false, narrowed := true }
def FnExactBookTextUptoSaid : Prop := fnExactBookTextUptoRow.holds Try.pinned (OpenSpec.upto fnExactBookTextSpec)

end Rows
end Go.Proofs.Ytmfgbkmkcljciaa
