/-
  No cell of these rows narrows 'for every input' (looked for: loops, veiled, ifaces, maps, wideKeys, modest, calm, conditions, laid).
  DERIVED. THE GIVEN ROWS OF THIS SEAT. 8 by the template 'for every input the law returns true; each argument reads behind the call as it read before'; 0 by the template 'total and deterministic' (their statements: YtmndbmapepenjaaTotals.lean).
  GIVEN WITH THE SEED: the statements are not yours to turn. If you find one false, say at which input.
  Laid BY PROGRAM, IN A SANDBOX (cutbox-rows.mjs): the forced cells as the released guide's own fill.sh prints them over the translation b977af75829d0a89… (all of the seat's roots in one cut). By AI agents, Wed Nov 11 2026. No macro, syntax, notation, axiom, sorry.
-/
import Derived.Test.YtmndbmapepenjaaChecked
import GoSem.Claim
import GoSem.ClaimJoined
import GoSem.ClaimMapViews
import Derived.JoinedTies
import Derived.KernelRfl
namespace Go.Proofs.Ytmndbmapepenjaa
/- THE CELL 'sum', in the pinned program and in every row, IS THE sha256 OF THE DUMP (.gsa) THAT YtmndbmapepenjaaProg.lean LOADS. Nothing in Lean hashes anything: it is a label: what it is worth is what the hold of that sum in a sandbox is worth. -/
noncomputable def Try.pinned : Pinned := { name := "ytmndbmapepenjaa", sum := "b977af75829d0a897bce117381ddd2007ca6f22b07e1414d936213ef6bf6f036", checked := Try.checked }
namespace Rows
def none {H : Type} : Left H := { results := [], args := [] }

/-- 'laws.FnExactSameTrack': WHATEVER THE INPUT: true; the input reads as it did. -/
def fnExactSameTrackSpec : ChangeSpec := { name := "fnExactSameTrack", fn := fun _ => fun
  | [d1, d2] => { results := [.lit (.bool true)], args := [d1, d2] }
  | _ => none }
def fnExactSameTrackRow : OpenClaim := { program := "ytmndbmapepenjaa", sum := "b977af75829d0a897bce117381ddd2007ca6f22b07e1414d936213ef6bf6f036", func := "loop.example/g01340/laws.FnExactSameTrack", spec := "fnExactSameTrack", apart := false }
def FnExactSameTrackSaid : Prop := fnExactSameTrackRow.holds Try.pinned (OpenSpec.ofChange fnExactSameTrackSpec)

/-- ITS FALSE NEIGHBOUR: 'it returns false'. Refute it at one input. -/
def fnExactSameTrackWrong : ChangeSpec := { name := "fnExactSameTrack", fn := fun _ => fun
  | [d1, d2] => { results := [.lit (.bool false)], args := [d1, d2] }
  | _ => none }
def FnExactSameTrackWrongFalsely : Prop := fnExactSameTrackRow.holds Try.pinned (OpenSpec.ofChange fnExactSameTrackWrong)

/-- 'laws.FnExactValidTrack': WHATEVER THE INPUT: true; the input reads as it did. -/
def fnExactValidTrackSpec : ChangeSpec := { name := "fnExactValidTrack", fn := fun _ => fun
  | [d] => { results := [.lit (.bool true)], args := [d] }
  | _ => none }
def fnExactValidTrackRow : OpenClaim := { program := "ytmndbmapepenjaa", sum := "b977af75829d0a897bce117381ddd2007ca6f22b07e1414d936213ef6bf6f036", func := "loop.example/g01340/laws.FnExactValidTrack", spec := "fnExactValidTrack", apart := false }
def FnExactValidTrackSaid : Prop := fnExactValidTrackRow.holds Try.pinned (OpenSpec.ofChange fnExactValidTrackSpec)

/-- ITS FALSE NEIGHBOUR: 'it returns false'. Refute it at one input. -/
def fnExactValidTrackWrong : ChangeSpec := { name := "fnExactValidTrack", fn := fun _ => fun
  | [d] => { results := [.lit (.bool false)], args := [d] }
  | _ => none }
def FnExactValidTrackWrongFalsely : Prop := fnExactValidTrackRow.holds Try.pinned (OpenSpec.ofChange fnExactValidTrackWrong)

/-- 'laws.FnExactTicksOf': WHATEVER THE INPUT: true; the input reads as it did. -/
def fnExactTicksOfSpec : ChangeSpec := { name := "fnExactTicksOf", fn := fun _ => fun
  | [d] => { results := [.lit (.bool true)], args := [d] }
  | _ => none }
def fnExactTicksOfRow : OpenClaim := { program := "ytmndbmapepenjaa", sum := "b977af75829d0a897bce117381ddd2007ca6f22b07e1414d936213ef6bf6f036", func := "loop.example/g01340/laws.FnExactTicksOf", spec := "fnExactTicksOf", apart := false }
def FnExactTicksOfSaid : Prop := fnExactTicksOfRow.holds Try.pinned (OpenSpec.ofChange fnExactTicksOfSpec)

/-- ITS FALSE NEIGHBOUR: 'it returns false'. Refute it at one input. -/
def fnExactTicksOfWrong : ChangeSpec := { name := "fnExactTicksOf", fn := fun _ => fun
  | [d] => { results := [.lit (.bool false)], args := [d] }
  | _ => none }
def FnExactTicksOfWrongFalsely : Prop := fnExactTicksOfRow.holds Try.pinned (OpenSpec.ofChange fnExactTicksOfWrong)

/-- 'laws.FnExactBackTrack': WHATEVER THE INPUT: true; the input reads as it did. -/
def fnExactBackTrackSpec : ChangeSpec := { name := "fnExactBackTrack", fn := fun _ => fun
  | [d] => { results := [.lit (.bool true)], args := [d] }
  | _ => none }
def fnExactBackTrackRow : OpenClaim := { program := "ytmndbmapepenjaa", sum := "b977af75829d0a897bce117381ddd2007ca6f22b07e1414d936213ef6bf6f036", func := "loop.example/g01340/laws.FnExactBackTrack", spec := "fnExactBackTrack", unfollowed := true, recurses := true, apart := false }
def FnExactBackTrackSaid : Prop := fnExactBackTrackRow.holds Try.pinned (OpenSpec.ofChange fnExactBackTrackSpec)

/-- ITS FALSE NEIGHBOUR: 'it returns false'. Refute it at one input. -/
def fnExactBackTrackWrong : ChangeSpec := { name := "fnExactBackTrack", fn := fun _ => fun
  | [d] => { results := [.lit (.bool false)], args := [d] }
  | _ => none }
def FnExactBackTrackWrongFalsely : Prop := fnExactBackTrackRow.holds Try.pinned (OpenSpec.ofChange fnExactBackTrackWrong)

/-- 'laws.FnEases': WHATEVER THE INPUT: true; the input reads as it did. -/
def fnEasesSpec : ChangeSpec := { name := "fnEases", fn := fun _ => fun
  | [d1, d2] => { results := [.lit (.bool true)], args := [d1, d2] }
  | _ => none }
def fnEasesRow : OpenClaim := { program := "ytmndbmapepenjaa", sum := "b977af75829d0a897bce117381ddd2007ca6f22b07e1414d936213ef6bf6f036", func := "loop.example/g01340/laws.FnEases", spec := "fnEases", apart := false }
def FnEasesSaid : Prop := fnEasesRow.holds Try.pinned (OpenSpec.ofChange fnEasesSpec)

/-- ITS FALSE NEIGHBOUR: 'it returns false'. Refute it at one input. -/
def fnEasesWrong : ChangeSpec := { name := "fnEases", fn := fun _ => fun
  | [d1, d2] => { results := [.lit (.bool false)], args := [d1, d2] }
  | _ => none }
def FnEasesWrongFalsely : Prop := fnEasesRow.holds Try.pinned (OpenSpec.ofChange fnEasesWrong)

/-- 'laws.FnExactMorphAt': WHATEVER THE INPUT: true; the input reads as it did. -/
def fnExactMorphAtSpec : ChangeSpec := { name := "fnExactMorphAt", fn := fun _ => fun
  | [d1, d2, d3, d4] => { results := [.lit (.bool true)], args := [d1, d2, d3, d4] }
  | _ => none }
def fnExactMorphAtRow : OpenClaim := { program := "ytmndbmapepenjaa", sum := "b977af75829d0a897bce117381ddd2007ca6f22b07e1414d936213ef6bf6f036", func := "loop.example/g01340/laws.FnExactMorphAt", spec := "fnExactMorphAt", unfollowed := true, recurses := true, apart := false }
def FnExactMorphAtSaid : Prop := fnExactMorphAtRow.holds Try.pinned (OpenSpec.ofChange fnExactMorphAtSpec)

/-- ITS FALSE NEIGHBOUR: 'it returns false'. Refute it at one input. -/
def fnExactMorphAtWrong : ChangeSpec := { name := "fnExactMorphAt", fn := fun _ => fun
  | [d1, d2, d3, d4] => { results := [.lit (.bool false)], args := [d1, d2, d3, d4] }
  | _ => none }
def FnExactMorphAtWrongFalsely : Prop := fnExactMorphAtRow.holds Try.pinned (OpenSpec.ofChange fnExactMorphAtWrong)

/-- 'laws.FnExactMorphBook': WHATEVER THE INPUT: true; the input reads as it did. -/
def fnExactMorphBookSpec : ChangeSpec := { name := "fnExactMorphBook", fn := fun _ => fun
  | [d1, d2, d3] => { results := [.lit (.bool true)], args := [d1, d2, d3] }
  | _ => none }
def fnExactMorphBookRow : OpenClaim := { program := "ytmndbmapepenjaa", sum := "b977af75829d0a897bce117381ddd2007ca6f22b07e1414d936213ef6bf6f036", func := "loop.example/g01340/laws.FnExactMorphBook", spec := "fnExactMorphBook", unfollowed := true, recurses := true, apart := false }
def FnExactMorphBookSaid : Prop := fnExactMorphBookRow.holds Try.pinned (OpenSpec.ofChange fnExactMorphBookSpec)

/-- ITS FALSE NEIGHBOUR: 'it returns false'. Refute it at one input. -/
def fnExactMorphBookWrong : ChangeSpec := { name := "fnExactMorphBook", fn := fun _ => fun
  | [d1, d2, d3] => { results := [.lit (.bool false)], args := [d1, d2, d3] }
  | _ => none }
def FnExactMorphBookWrongFalsely : Prop := fnExactMorphBookRow.holds Try.pinned (OpenSpec.ofChange fnExactMorphBookWrong)

/-- 'laws.FnExactValidPart': WHATEVER THE INPUT: true; the input reads as it did. -/
def fnExactValidPartSpec : ChangeSpec := { name := "fnExactValidPart", fn := fun _ => fun
  | [d] => { results := [.lit (.bool true)], args := [d] }
  | _ => none }
def fnExactValidPartRow : OpenClaim := { program := "ytmndbmapepenjaa", sum := "b977af75829d0a897bce117381ddd2007ca6f22b07e1414d936213ef6bf6f036", func := "loop.example/g01340/laws.FnExactValidPart", spec := "fnExactValidPart", unfollowed := true, recurses := true, apart := false }
def FnExactValidPartSaid : Prop := fnExactValidPartRow.holds Try.pinned (OpenSpec.ofChange fnExactValidPartSpec)

/-- ITS FALSE NEIGHBOUR: 'it returns false'. Refute it at one input. -/
def fnExactValidPartWrong : ChangeSpec := { name := "fnExactValidPart", fn := fun _ => fun
  | [d] => { results := [.lit (.bool false)], args := [d] }
  | _ => none }
def FnExactValidPartWrongFalsely : Prop := fnExactValidPartRow.holds Try.pinned (OpenSpec.ofChange fnExactValidPartWrong)

/- THE SECOND FORM. 'bulk': how many values and letters a reading holds, each counted each time it is reached (what is shared counts as often as it is met; a slice's spare places count too). A statement '..UptoSaid' is the law's where the arguments, and the package variables that the reading takes, are together of bulk at most 1048576: NARROWER than '..Said'. Prove '..Said' where nothing that the law and all that it calls make is longer than what came in: it says more and counts as full. Else prove '..UptoSaid'. A law counts once. -/
mutual
def uptoBulk {H : Type} : DataW H → Nat
  | .lit (.string bytes) => bytes.length + 1
  | .lit _ => 1
  | .nil => 1
  | .ptr d => uptoBulk d + 1
  | .slice elems spare => uptoBulkAll elems + uptoBulkAll spare + 1
  | .agg parts => uptoBulkAll parts + 1
  | .iface _ d => uptoBulk d + 1
  | .map entries => uptoBulkEntries entries + 1
  | .held _ => 1
def uptoBulkAll {H : Type} : List (DataW H) → Nat
  | [] => 0
  | d :: r => uptoBulk d + uptoBulkAll r
def uptoBulkEntries {H : Type} : List (Lit × DataW H) → Nat
  | [] => 0
  | x :: r => uptoBulkEntry x + uptoBulkEntries r
def uptoBulkEntry {H : Type} : Lit × DataW H → Nat
  | (.string bytes, d) => bytes.length + uptoBulk d + 1
  | (_, d) => uptoBulk d + 1
 end
def uptoSmall : (H : Type) → List (DataW H) → Bool := fun _ ds => decide (uptoBulkAll ds ≤ 1048576)
def OpenSpec.upto (s : _root_.Go.ChangeSpec) : _root_.Go.OpenSpec := { _root_.Go.OpenSpec.ofChange s with cond := some uptoSmall }

/-- 'laws.FnExactSameTrack', WHERE WHAT IT READS IS OF BULK AT MOST 1048576: true; the input reads as it did. -/
def fnExactSameTrackUptoRow : OpenClaim := { program := "ytmndbmapepenjaa", sum := "b977af75829d0a897bce117381ddd2007ca6f22b07e1414d936213ef6bf6f036", func := "loop.example/g01340/laws.FnExactSameTrack", spec := "fnExactSameTrack", apart := false, narrowed := true }
def FnExactSameTrackUptoSaid : Prop := fnExactSameTrackUptoRow.holds Try.pinned (OpenSpec.upto fnExactSameTrackSpec)

/-- 'laws.FnExactValidTrack', WHERE WHAT IT READS IS OF BULK AT MOST 1048576: true; the input reads as it did. -/
def fnExactValidTrackUptoRow : OpenClaim := { program := "ytmndbmapepenjaa", sum := "b977af75829d0a897bce117381ddd2007ca6f22b07e1414d936213ef6bf6f036", func := "loop.example/g01340/laws.FnExactValidTrack", spec := "fnExactValidTrack", apart := false, narrowed := true }
def FnExactValidTrackUptoSaid : Prop := fnExactValidTrackUptoRow.holds Try.pinned (OpenSpec.upto fnExactValidTrackSpec)

/-- 'laws.FnExactTicksOf', WHERE WHAT IT READS IS OF BULK AT MOST 1048576: true; the input reads as it did. -/
def fnExactTicksOfUptoRow : OpenClaim := { program := "ytmndbmapepenjaa", sum := "b977af75829d0a897bce117381ddd2007ca6f22b07e1414d936213ef6bf6f036", func := "loop.example/g01340/laws.FnExactTicksOf", spec := "fnExactTicksOf", apart := false, narrowed := true }
def FnExactTicksOfUptoSaid : Prop := fnExactTicksOfUptoRow.holds Try.pinned (OpenSpec.upto fnExactTicksOfSpec)

/-- 'laws.FnExactBackTrack', WHERE WHAT IT READS IS OF BULK AT MOST 1048576: true; the input reads as it did. -/
def fnExactBackTrackUptoRow : OpenClaim := { program := "ytmndbmapepenjaa", sum := "b977af75829d0a897bce117381ddd2007ca6f22b07e1414d936213ef6bf6f036", func := "loop.example/g01340/laws.FnExactBackTrack", spec := "fnExactBackTrack", unfollowed := true, recurses := true, apart := false, narrowed := true }
def FnExactBackTrackUptoSaid : Prop := fnExactBackTrackUptoRow.holds Try.pinned (OpenSpec.upto fnExactBackTrackSpec)

/-- 'laws.FnEases', WHERE WHAT IT READS IS OF BULK AT MOST 1048576: true; the input reads as it did. -/
def fnEasesUptoRow : OpenClaim := { program := "ytmndbmapepenjaa", sum := "b977af75829d0a897bce117381ddd2007ca6f22b07e1414d936213ef6bf6f036", func := "loop.example/g01340/laws.FnEases", spec := "fnEases", apart := false, narrowed := true }
def FnEasesUptoSaid : Prop := fnEasesUptoRow.holds Try.pinned (OpenSpec.upto fnEasesSpec)

/-- 'laws.FnExactMorphAt', WHERE WHAT IT READS IS OF BULK AT MOST 1048576: true; the input reads as it did. -/
def fnExactMorphAtUptoRow : OpenClaim := { program := "ytmndbmapepenjaa", sum := "b977af75829d0a897bce117381ddd2007ca6f22b07e1414d936213ef6bf6f036", func := "loop.example/g01340/laws.FnExactMorphAt", spec := "fnExactMorphAt", unfollowed := true, recurses := true, apart := false, narrowed := true }
def FnExactMorphAtUptoSaid : Prop := fnExactMorphAtUptoRow.holds Try.pinned (OpenSpec.upto fnExactMorphAtSpec)

/-- 'laws.FnExactMorphBook', WHERE WHAT IT READS IS OF BULK AT MOST 1048576: true; the input reads as it did. -/
def fnExactMorphBookUptoRow : OpenClaim := { program := "ytmndbmapepenjaa", sum := "b977af75829d0a897bce117381ddd2007ca6f22b07e1414d936213ef6bf6f036", func := "loop.example/g01340/laws.FnExactMorphBook", spec := "fnExactMorphBook", unfollowed := true, recurses := true, apart := false, narrowed := true }
def FnExactMorphBookUptoSaid : Prop := fnExactMorphBookUptoRow.holds Try.pinned (OpenSpec.upto fnExactMorphBookSpec)

/-- 'laws.FnExactValidPart', WHERE WHAT IT READS IS OF BULK AT MOST 1048576: true; the input reads as it did. -/
def fnExactValidPartUptoRow : OpenClaim := { program := "ytmndbmapepenjaa", sum := "b977af75829d0a897bce117381ddd2007ca6f22b07e1414d936213ef6bf6f036", func := "loop.example/g01340/laws.FnExactValidPart", spec := "fnExactValidPart", unfollowed := true, recurses := true, apart := false, narrowed := true }
def FnExactValidPartUptoSaid : Prop := fnExactValidPartUptoRow.holds Try.pinned (OpenSpec.upto fnExactValidPartSpec)

end Rows
end Go.Proofs.Ytmndbmapepenjaa
