/-
  No cell of these rows narrows 'for every input' (looked for: loops, veiled, ifaces, maps, wideKeys, modest, calm, conditions, laid).
  DERIVED. THE GIVEN ROWS OF THIS SEAT. 7 by the template 'for every input the law returns true; each argument reads behind the call as it read before'; 0 by the template 'total and deterministic' (their statements: YtocbmciejfjikaaTotals.lean).
  GIVEN WITH THE SEED: the statements are not yours to turn. If you find one false, say at which input.
  Laid BY PROGRAM, IN A SANDBOX (cutbox-rows.mjs): the forced cells as the released guide's own fill.sh prints them over the translation 8ef2aac4e5a82ede… (all of the seat's roots in one cut). By AI agents, Wed Nov 11 2026. No macro, syntax, notation, axiom, sorry.
-/
import Derived.Test.YtocbmciejfjikaaChecked
import GoSem.Claim
import GoSem.ClaimJoined
import GoSem.ClaimMapViews
import Derived.JoinedTies
import Derived.KernelRfl
namespace Go.Proofs.Ytocbmciejfjikaa
/- THE CELL 'sum', in the pinned program and in every row, IS THE sha256 OF THE DUMP (.gsa) THAT YtocbmciejfjikaaProg.lean LOADS. Nothing in Lean hashes anything: it is a label: what it is worth is what the hold of that sum in a sandbox is worth. -/
noncomputable def Try.pinned : Pinned := { name := "ytocbmciejfjikaa", sum := "8ef2aac4e5a82ede5b325444d0532b25a2217ab42fb01f10b94b55fa9a8cc00d", checked := Try.checked }
namespace Rows
def none {H : Type} : Left H := { results := [], args := [] }

/-- 'laws.FnExactConstants': WHATEVER THE INPUT: true; the input reads as it did. -/
def fnExactConstantsSpec : ChangeSpec := { name := "fnExactConstants", fn := fun _ => fun
  | [] => { results := [.lit (.bool true)], args := [] }
  | _ => none }
def fnExactConstantsRow : OpenClaim := { program := "ytocbmciejfjikaa", sum := "8ef2aac4e5a82ede5b325444d0532b25a2217ab42fb01f10b94b55fa9a8cc00d", func := "loop.example/g01340/laws.FnExactConstants", spec := "fnExactConstants", apart := false }
def FnExactConstantsSaid : Prop := fnExactConstantsRow.holds Try.pinned (OpenSpec.ofChange fnExactConstantsSpec)

/-- ITS FALSE NEIGHBOUR: 'it returns false'. Refute it at one input. -/
def fnExactConstantsWrong : ChangeSpec := { name := "fnExactConstants", fn := fun _ => fun
  | [] => { results := [.lit (.bool false)], args := [] }
  | _ => none }
def FnExactConstantsWrongFalsely : Prop := fnExactConstantsRow.holds Try.pinned (OpenSpec.ofChange fnExactConstantsWrong)

/-- 'laws.FnExactCodeName': WHATEVER THE INPUT: true; the input reads as it did. -/
def fnExactCodeNameSpec : ChangeSpec := { name := "fnExactCodeName", fn := fun _ => fun
  | [d] => { results := [.lit (.bool true)], args := [d] }
  | _ => none }
def fnExactCodeNameRow : OpenClaim := { program := "ytocbmciejfjikaa", sum := "8ef2aac4e5a82ede5b325444d0532b25a2217ab42fb01f10b94b55fa9a8cc00d", func := "loop.example/g01340/laws.FnExactCodeName", spec := "fnExactCodeName", apart := false }
def FnExactCodeNameSaid : Prop := fnExactCodeNameRow.holds Try.pinned (OpenSpec.ofChange fnExactCodeNameSpec)

/-- ITS FALSE NEIGHBOUR: 'it returns false'. Refute it at one input. -/
def fnExactCodeNameWrong : ChangeSpec := { name := "fnExactCodeName", fn := fun _ => fun
  | [d] => { results := [.lit (.bool false)], args := [d] }
  | _ => none }
def FnExactCodeNameWrongFalsely : Prop := fnExactCodeNameRow.holds Try.pinned (OpenSpec.ofChange fnExactCodeNameWrong)

/-- 'laws.FnExactValidFrame': WHATEVER THE INPUT: true; the input reads as it did. -/
def fnExactValidFrameSpec : ChangeSpec := { name := "fnExactValidFrame", fn := fun _ => fun
  | [d] => { results := [.lit (.bool true)], args := [d] }
  | _ => none }
def fnExactValidFrameRow : OpenClaim := { program := "ytocbmciejfjikaa", sum := "8ef2aac4e5a82ede5b325444d0532b25a2217ab42fb01f10b94b55fa9a8cc00d", func := "loop.example/g01340/laws.FnExactValidFrame", spec := "fnExactValidFrame", unfollowed := true, recurses := true, apart := false }
def FnExactValidFrameSaid : Prop := fnExactValidFrameRow.holds Try.pinned (OpenSpec.ofChange fnExactValidFrameSpec)

/-- ITS FALSE NEIGHBOUR: 'it returns false'. Refute it at one input. -/
def fnExactValidFrameWrong : ChangeSpec := { name := "fnExactValidFrame", fn := fun _ => fun
  | [d] => { results := [.lit (.bool false)], args := [d] }
  | _ => none }
def FnExactValidFrameWrongFalsely : Prop := fnExactValidFrameRow.holds Try.pinned (OpenSpec.ofChange fnExactValidFrameWrong)

/-- 'laws.FnExactBetweenOf': WHATEVER THE INPUT: true; the input reads as it did. -/
def fnExactBetweenOfSpec : ChangeSpec := { name := "fnExactBetweenOf", fn := fun _ => fun
  | [d1, d2, d3] => { results := [.lit (.bool true)], args := [d1, d2, d3] }
  | _ => none }
def fnExactBetweenOfRow : OpenClaim := { program := "ytocbmciejfjikaa", sum := "8ef2aac4e5a82ede5b325444d0532b25a2217ab42fb01f10b94b55fa9a8cc00d", func := "loop.example/g01340/laws.FnExactBetweenOf", spec := "fnExactBetweenOf", apart := false }
def FnExactBetweenOfSaid : Prop := fnExactBetweenOfRow.holds Try.pinned (OpenSpec.ofChange fnExactBetweenOfSpec)

/-- ITS FALSE NEIGHBOUR: 'it returns false'. Refute it at one input. -/
def fnExactBetweenOfWrong : ChangeSpec := { name := "fnExactBetweenOf", fn := fun _ => fun
  | [d1, d2, d3] => { results := [.lit (.bool false)], args := [d1, d2, d3] }
  | _ => none }
def FnExactBetweenOfWrongFalsely : Prop := fnExactBetweenOfRow.holds Try.pinned (OpenSpec.ofChange fnExactBetweenOfWrong)

/-- 'laws.FnExactEaseOf': WHATEVER THE INPUT: true; the input reads as it did. -/
def fnExactEaseOfSpec : ChangeSpec := { name := "fnExactEaseOf", fn := fun _ => fun
  | [d1, d2, d3] => { results := [.lit (.bool true)], args := [d1, d2, d3] }
  | _ => none }
def fnExactEaseOfRow : OpenClaim := { program := "ytocbmciejfjikaa", sum := "8ef2aac4e5a82ede5b325444d0532b25a2217ab42fb01f10b94b55fa9a8cc00d", func := "loop.example/g01340/laws.FnExactEaseOf", spec := "fnExactEaseOf", apart := false }
def FnExactEaseOfSaid : Prop := fnExactEaseOfRow.holds Try.pinned (OpenSpec.ofChange fnExactEaseOfSpec)

/-- ITS FALSE NEIGHBOUR: 'it returns false'. Refute it at one input. -/
def fnExactEaseOfWrong : ChangeSpec := { name := "fnExactEaseOf", fn := fun _ => fun
  | [d1, d2, d3] => { results := [.lit (.bool false)], args := [d1, d2, d3] }
  | _ => none }
def FnExactEaseOfWrongFalsely : Prop := fnExactEaseOfRow.holds Try.pinned (OpenSpec.ofChange fnExactEaseOfWrong)

/-- 'laws.FnExactInvertFrame': WHATEVER THE INPUT: true; the input reads as it did. -/
def fnExactInvertFrameSpec : ChangeSpec := { name := "fnExactInvertFrame", fn := fun _ => fun
  | [d] => { results := [.lit (.bool true)], args := [d] }
  | _ => none }
def fnExactInvertFrameRow : OpenClaim := { program := "ytocbmciejfjikaa", sum := "8ef2aac4e5a82ede5b325444d0532b25a2217ab42fb01f10b94b55fa9a8cc00d", func := "loop.example/g01340/laws.FnExactInvertFrame", spec := "fnExactInvertFrame", unfollowed := true, recurses := true, apart := false }
def FnExactInvertFrameSaid : Prop := fnExactInvertFrameRow.holds Try.pinned (OpenSpec.ofChange fnExactInvertFrameSpec)

/-- ITS FALSE NEIGHBOUR: 'it returns false'. Refute it at one input. -/
def fnExactInvertFrameWrong : ChangeSpec := { name := "fnExactInvertFrame", fn := fun _ => fun
  | [d] => { results := [.lit (.bool false)], args := [d] }
  | _ => none }
def FnExactInvertFrameWrongFalsely : Prop := fnExactInvertFrameRow.holds Try.pinned (OpenSpec.ofChange fnExactInvertFrameWrong)

/-- 'laws.FnExactFlipFrame': WHATEVER THE INPUT: true; the input reads as it did. -/
def fnExactFlipFrameSpec : ChangeSpec := { name := "fnExactFlipFrame", fn := fun _ => fun
  | [d] => { results := [.lit (.bool true)], args := [d] }
  | _ => none }
def fnExactFlipFrameRow : OpenClaim := { program := "ytocbmciejfjikaa", sum := "8ef2aac4e5a82ede5b325444d0532b25a2217ab42fb01f10b94b55fa9a8cc00d", func := "loop.example/g01340/laws.FnExactFlipFrame", spec := "fnExactFlipFrame", unfollowed := true, recurses := true, apart := false }
def FnExactFlipFrameSaid : Prop := fnExactFlipFrameRow.holds Try.pinned (OpenSpec.ofChange fnExactFlipFrameSpec)

/-- ITS FALSE NEIGHBOUR: 'it returns false'. Refute it at one input. -/
def fnExactFlipFrameWrong : ChangeSpec := { name := "fnExactFlipFrame", fn := fun _ => fun
  | [d] => { results := [.lit (.bool false)], args := [d] }
  | _ => none }
def FnExactFlipFrameWrongFalsely : Prop := fnExactFlipFrameRow.holds Try.pinned (OpenSpec.ofChange fnExactFlipFrameWrong)

/- THE SECOND FORM. 'bulk': how many values and letters a reading holds, each counted each time it is reached (what is shared counts as often as it is met; a slice's spare places count too). A statement '..UptoSaid' is the law's where the arguments, and the package variables that the reading takes, are together of bulk at most 1048576: NARROWER than '..Said'. Prove '..Said' where nothing that the law and all that it calls make is longer than what came in: it says more and counts as full. Else prove '..UptoSaid'. A law counts once. -/
mutual
def uptoBulk {H : Type} : DataW H → Nat
  | .lit (.string bytes) => bytes.length + 1
  | .lit _ => 1
  | .nil => 1
  | .ptr d => uptoBulk d + 1
  | .slice elems spare => uptoBulkAll elems + uptoBulkAll spare + 1
  | .agg parts => uptoBulkAll parts + 1
  | .iface _ d => uptoBulk d + 1
  | .map entries => uptoBulkEntries entries + 1
  | .held _ => 1
def uptoBulkAll {H : Type} : List (DataW H) → Nat
  | [] => 0
  | d :: r => uptoBulk d + uptoBulkAll r
def uptoBulkEntries {H : Type} : List (Lit × DataW H) → Nat
  | [] => 0
  | x :: r => uptoBulkEntry x + uptoBulkEntries r
def uptoBulkEntry {H : Type} : Lit × DataW H → Nat
  | (.string bytes, d) => bytes.length + uptoBulk d + 1
  | (_, d) => uptoBulk d + 1
 end
def uptoSmall : (H : Type) → List (DataW H) → Bool := fun _ ds => decide (uptoBulkAll ds ≤ 1048576)
def OpenSpec.upto (s : _root_.Go.ChangeSpec) : _root_.Go.OpenSpec := { _root_.Go.OpenSpec.ofChange s with cond := some uptoSmall }

/-- 'laws.FnExactConstants', WHERE WHAT IT READS IS OF BULK AT MOST 1048576: true; the input reads as it did. -/
def fnExactConstantsUptoRow : OpenClaim := { program := "ytocbmciejfjikaa", sum := "8ef2aac4e5a82ede5b325444d0532b25a2217ab42fb01f10b94b55fa9a8cc00d", func := "loop.example/g01340/laws.FnExactConstants", spec := "fnExactConstants", apart := false, narrowed := true }
def FnExactConstantsUptoSaid : Prop := fnExactConstantsUptoRow.holds Try.pinned (OpenSpec.upto fnExactConstantsSpec)

/-- 'laws.FnExactCodeName', WHERE WHAT IT READS IS OF BULK AT MOST 1048576: true; the input reads as it did. -/
def fnExactCodeNameUptoRow : OpenClaim := { program := "ytocbmciejfjikaa", sum := "8ef2aac4e5a82ede5b325444d0532b25a2217ab42fb01f10b94b55fa9a8cc00d", func := "loop.example/g01340/laws.FnExactCodeName", spec := "fnExactCodeName", apart := false, narrowed := true }
def FnExactCodeNameUptoSaid : Prop := fnExactCodeNameUptoRow.holds Try.pinned (OpenSpec.upto fnExactCodeNameSpec)

/-- 'laws.FnExactValidFrame', WHERE WHAT IT READS IS OF BULK AT MOST 1048576: true; the input reads as it did. -/
def fnExactValidFrameUptoRow : OpenClaim := { program := "ytocbmciejfjikaa", sum := "8ef2aac4e5a82ede5b325444d0532b25a2217ab42fb01f10b94b55fa9a8cc00d", func := "loop.example/g01340/laws.FnExactValidFrame", spec := "fnExactValidFrame", unfollowed := true, recurses := true, apart := false, narrowed := true }
def FnExactValidFrameUptoSaid : Prop := fnExactValidFrameUptoRow.holds Try.pinned (OpenSpec.upto fnExactValidFrameSpec)

/-- 'laws.FnExactBetweenOf', WHERE WHAT IT READS IS OF BULK AT MOST 1048576: true; the input reads as it did. -/
def fnExactBetweenOfUptoRow : OpenClaim := { program := "ytocbmciejfjikaa", sum := "8ef2aac4e5a82ede5b325444d0532b25a2217ab42fb01f10b94b55fa9a8cc00d", func := "loop.example/g01340/laws.FnExactBetweenOf", spec := "fnExactBetweenOf", apart := false, narrowed := true }
def FnExactBetweenOfUptoSaid : Prop := fnExactBetweenOfUptoRow.holds Try.pinned (OpenSpec.upto fnExactBetweenOfSpec)

/-- 'laws.FnExactEaseOf', WHERE WHAT IT READS IS OF BULK AT MOST 1048576: true; the input reads as it did. -/
def fnExactEaseOfUptoRow : OpenClaim := { program := "ytocbmciejfjikaa", sum := "8ef2aac4e5a82ede5b325444d0532b25a2217ab42fb01f10b94b55fa9a8cc00d", func := "loop.example/g01340/laws.FnExactEaseOf", spec := "fnExactEaseOf", apart := false, narrowed := true }
def FnExactEaseOfUptoSaid : Prop := fnExactEaseOfUptoRow.holds Try.pinned (OpenSpec.upto fnExactEaseOfSpec)

/-- 'laws.FnExactInvertFrame', WHERE WHAT IT READS IS OF BULK AT MOST 1048576: true; the input reads as it did. -/
def fnExactInvertFrameUptoRow : OpenClaim := { program := "ytocbmciejfjikaa", sum := "8ef2aac4e5a82ede5b325444d0532b25a2217ab42fb01f10b94b55fa9a8cc00d", func := "loop.example/g01340/laws.FnExactInvertFrame", spec := "fnExactInvertFrame", unfollowed := true, recurses := true, apart := false, narrowed := true }
def FnExactInvertFrameUptoSaid : Prop := fnExactInvertFrameUptoRow.holds Try.pinned (OpenSpec.upto fnExactInvertFrameSpec)

/-- 'laws.FnExactFlipFrame', WHERE WHAT IT READS IS OF BULK AT MOST 1048576: true; the input reads as it did. -/
def fnExactFlipFrameUptoRow : OpenClaim := { program := "ytocbmciejfjikaa", sum := "8ef2aac4e5a82ede5b325444d0532b25a2217ab42fb01f10b94b55fa9a8cc00d", func := "loop.example/g01340/laws.FnExactFlipFrame", spec := "fnExactFlipFrame", unfollowed := true, recurses := true, apart := false, narrowed := true }
def FnExactFlipFrameUptoSaid : Prop := fnExactFlipFrameUptoRow.holds Try.pinned (OpenSpec.upto fnExactFlipFrameSpec)

end Rows
end Go.Proofs.Ytocbmciejfjikaa
