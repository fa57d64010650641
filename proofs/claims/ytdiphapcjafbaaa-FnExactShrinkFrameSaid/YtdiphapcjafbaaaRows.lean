/-
  No cell of these rows narrows 'for every input' (looked for: loops, veiled, ifaces, maps, wideKeys, modest, calm, conditions, laid).
  DERIVED. THE GIVEN ROWS OF THIS SEAT. 20 by the template 'for every input the law returns true; each argument reads behind the call as it read before'; 0 by the template 'total and deterministic' (their statements: YtdiphapcjafbaaaTotals.lean).
  GIVEN WITH THE SEED: the statements are not yours to turn. If you find one false, say at which input.
  Laid BY PROGRAM, IN A SANDBOX (cutbox-rows.mjs): the forced cells as the released guide's own fill.sh prints them over the translation e1e402cd31da649e… (all of the seat's roots in one cut). By AI agents, Wed Nov 11 2026. No macro, syntax, notation, axiom, sorry.
-/
import Derived.Test.YtdiphapcjafbaaaChecked
import GoSem.Claim
import GoSem.ClaimJoined
import GoSem.ClaimMapViews
import Derived.JoinedTies
import Derived.KernelRfl
namespace Go.Proofs.Ytdiphapcjafbaaa
/- THE CELL 'sum', in the pinned program and in every row, IS THE sha256 OF THE DUMP (.gsa) THAT YtdiphapcjafbaaaProg.lean LOADS. Nothing in Lean hashes anything: it is a label: what it is worth is what the hold of that sum in a sandbox is worth. -/
noncomputable def Try.pinned : Pinned := { name := "ytdiphapcjafbaaa", sum := "e1e402cd31da649e68f7f4ee73137fad2cc41bdf912882769697e0b6d9c4a581", checked := Try.checked }
namespace Rows
def none {H : Type} : Left H := { results := [], args := [] }

/-- 'laws.FnExactValidFrame': WHATEVER THE INPUT: true; the input reads as it did. -/
def fnExactValidFrameSpec : ChangeSpec := { name := "fnExactValidFrame", fn := fun _ => fun
  | [d] => { results := [.lit (.bool true)], args := [d] }
  | _ => none }
def fnExactValidFrameRow : OpenClaim := { program := "ytdiphapcjafbaaa", sum := "e1e402cd31da649e68f7f4ee73137fad2cc41bdf912882769697e0b6d9c4a581", func := "loop.example/g01340/laws.FnExactValidFrame", spec := "fnExactValidFrame", unfollowed := true, recurses := true, apart := false }
def FnExactValidFrameSaid : Prop := fnExactValidFrameRow.holds Try.pinned (OpenSpec.ofChange fnExactValidFrameSpec)

/-- ITS FALSE NEIGHBOUR: 'it returns false'. Refute it at one input. -/
def fnExactValidFrameWrong : ChangeSpec := { name := "fnExactValidFrame", fn := fun _ => fun
  | [d] => { results := [.lit (.bool false)], args := [d] }
  | _ => none }
def FnExactValidFrameWrongFalsely : Prop := fnExactValidFrameRow.holds Try.pinned (OpenSpec.ofChange fnExactValidFrameWrong)

/-- 'laws.FnExactInvertFrame': WHATEVER THE INPUT: true; the input reads as it did. -/
def fnExactInvertFrameSpec : ChangeSpec := { name := "fnExactInvertFrame", fn := fun _ => fun
  | [d] => { results := [.lit (.bool true)], args := [d] }
  | _ => none }
def fnExactInvertFrameRow : OpenClaim := { program := "ytdiphapcjafbaaa", sum := "e1e402cd31da649e68f7f4ee73137fad2cc41bdf912882769697e0b6d9c4a581", func := "loop.example/g01340/laws.FnExactInvertFrame", spec := "fnExactInvertFrame", unfollowed := true, recurses := true, apart := false }
def FnExactInvertFrameSaid : Prop := fnExactInvertFrameRow.holds Try.pinned (OpenSpec.ofChange fnExactInvertFrameSpec)

/-- ITS FALSE NEIGHBOUR: 'it returns false'. Refute it at one input. -/
def fnExactInvertFrameWrong : ChangeSpec := { name := "fnExactInvertFrame", fn := fun _ => fun
  | [d] => { results := [.lit (.bool false)], args := [d] }
  | _ => none }
def FnExactInvertFrameWrongFalsely : Prop := fnExactInvertFrameRow.holds Try.pinned (OpenSpec.ofChange fnExactInvertFrameWrong)

/-- 'laws.FnExactFlipFrame': WHATEVER THE INPUT: true; the input reads as it did. -/
def fnExactFlipFrameSpec : ChangeSpec := { name := "fnExactFlipFrame", fn := fun _ => fun
  | [d] => { results := [.lit (.bool true)], args := [d] }
  | _ => none }
def fnExactFlipFrameRow : OpenClaim := { program := "ytdiphapcjafbaaa", sum := "e1e402cd31da649e68f7f4ee73137fad2cc41bdf912882769697e0b6d9c4a581", func := "loop.example/g01340/laws.FnExactFlipFrame", spec := "fnExactFlipFrame", unfollowed := true, recurses := true, apart := false }
def FnExactFlipFrameSaid : Prop := fnExactFlipFrameRow.holds Try.pinned (OpenSpec.ofChange fnExactFlipFrameSpec)

/-- ITS FALSE NEIGHBOUR: 'it returns false'. Refute it at one input. -/
def fnExactFlipFrameWrong : ChangeSpec := { name := "fnExactFlipFrame", fn := fun _ => fun
  | [d] => { results := [.lit (.bool false)], args := [d] }
  | _ => none }
def FnExactFlipFrameWrongFalsely : Prop := fnExactFlipFrameRow.holds Try.pinned (OpenSpec.ofChange fnExactFlipFrameWrong)

/-- 'laws.FnExactHasDot': WHATEVER THE INPUT: true; the input reads as it did. -/
def fnExactHasDotSpec : ChangeSpec := { name := "fnExactHasDot", fn := fun _ => fun
  | [d1, d2, d3] => { results := [.lit (.bool true)], args := [d1, d2, d3] }
  | _ => none }
def fnExactHasDotRow : OpenClaim := { program := "ytdiphapcjafbaaa", sum := "e1e402cd31da649e68f7f4ee73137fad2cc41bdf912882769697e0b6d9c4a581", func := "loop.example/g01340/laws.FnExactHasDot", spec := "fnExactHasDot", unfollowed := true, recurses := true, apart := false }
def FnExactHasDotSaid : Prop := fnExactHasDotRow.holds Try.pinned (OpenSpec.ofChange fnExactHasDotSpec)

/-- ITS FALSE NEIGHBOUR: 'it returns false'. Refute it at one input. -/
def fnExactHasDotWrong : ChangeSpec := { name := "fnExactHasDot", fn := fun _ => fun
  | [d1, d2, d3] => { results := [.lit (.bool false)], args := [d1, d2, d3] }
  | _ => none }
def FnExactHasDotWrongFalsely : Prop := fnExactHasDotRow.holds Try.pinned (OpenSpec.ofChange fnExactHasDotWrong)

/-- 'laws.FnExactCountDots': WHATEVER THE INPUT: true; the input reads as it did. -/
def fnExactCountDotsSpec : ChangeSpec := { name := "fnExactCountDots", fn := fun _ => fun
  | [d] => { results := [.lit (.bool true)], args := [d] }
  | _ => none }
def fnExactCountDotsRow : OpenClaim := { program := "ytdiphapcjafbaaa", sum := "e1e402cd31da649e68f7f4ee73137fad2cc41bdf912882769697e0b6d9c4a581", func := "loop.example/g01340/laws.FnExactCountDots", spec := "fnExactCountDots", unfollowed := true, recurses := true, apart := false }
def FnExactCountDotsSaid : Prop := fnExactCountDotsRow.holds Try.pinned (OpenSpec.ofChange fnExactCountDotsSpec)

/-- ITS FALSE NEIGHBOUR: 'it returns false'. Refute it at one input. -/
def fnExactCountDotsWrong : ChangeSpec := { name := "fnExactCountDots", fn := fun _ => fun
  | [d] => { results := [.lit (.bool false)], args := [d] }
  | _ => none }
def FnExactCountDotsWrongFalsely : Prop := fnExactCountDotsRow.holds Try.pinned (OpenSpec.ofChange fnExactCountDotsWrong)

/-- 'laws.FnExactMeetFrames': WHATEVER THE INPUT: true; the input reads as it did. -/
def fnExactMeetFramesSpec : ChangeSpec := { name := "fnExactMeetFrames", fn := fun _ => fun
  | [d1, d2] => { results := [.lit (.bool true)], args := [d1, d2] }
  | _ => none }
def fnExactMeetFramesRow : OpenClaim := { program := "ytdiphapcjafbaaa", sum := "e1e402cd31da649e68f7f4ee73137fad2cc41bdf912882769697e0b6d9c4a581", func := "loop.example/g01340/laws.FnExactMeetFrames", spec := "fnExactMeetFrames", unfollowed := true, recurses := true, apart := false }
def FnExactMeetFramesSaid : Prop := fnExactMeetFramesRow.holds Try.pinned (OpenSpec.ofChange fnExactMeetFramesSpec)

/-- ITS FALSE NEIGHBOUR: 'it returns false'. Refute it at one input. -/
def fnExactMeetFramesWrong : ChangeSpec := { name := "fnExactMeetFrames", fn := fun _ => fun
  | [d1, d2] => { results := [.lit (.bool false)], args := [d1, d2] }
  | _ => none }
def FnExactMeetFramesWrongFalsely : Prop := fnExactMeetFramesRow.holds Try.pinned (OpenSpec.ofChange fnExactMeetFramesWrong)

/-- 'laws.FnExactJoinFrames': WHATEVER THE INPUT: true; the input reads as it did. -/
def fnExactJoinFramesSpec : ChangeSpec := { name := "fnExactJoinFrames", fn := fun _ => fun
  | [d1, d2] => { results := [.lit (.bool true)], args := [d1, d2] }
  | _ => none }
def fnExactJoinFramesRow : OpenClaim := { program := "ytdiphapcjafbaaa", sum := "e1e402cd31da649e68f7f4ee73137fad2cc41bdf912882769697e0b6d9c4a581", func := "loop.example/g01340/laws.FnExactJoinFrames", spec := "fnExactJoinFrames", unfollowed := true, recurses := true, apart := false }
def FnExactJoinFramesSaid : Prop := fnExactJoinFramesRow.holds Try.pinned (OpenSpec.ofChange fnExactJoinFramesSpec)

/-- ITS FALSE NEIGHBOUR: 'it returns false'. Refute it at one input. -/
def fnExactJoinFramesWrong : ChangeSpec := { name := "fnExactJoinFrames", fn := fun _ => fun
  | [d1, d2] => { results := [.lit (.bool false)], args := [d1, d2] }
  | _ => none }
def FnExactJoinFramesWrongFalsely : Prop := fnExactJoinFramesRow.holds Try.pinned (OpenSpec.ofChange fnExactJoinFramesWrong)

/-- 'laws.FnExactLessFrame': WHATEVER THE INPUT: true; the input reads as it did. -/
def fnExactLessFrameSpec : ChangeSpec := { name := "fnExactLessFrame", fn := fun _ => fun
  | [d1, d2] => { results := [.lit (.bool true)], args := [d1, d2] }
  | _ => none }
def fnExactLessFrameRow : OpenClaim := { program := "ytdiphapcjafbaaa", sum := "e1e402cd31da649e68f7f4ee73137fad2cc41bdf912882769697e0b6d9c4a581", func := "loop.example/g01340/laws.FnExactLessFrame", spec := "fnExactLessFrame", unfollowed := true, recurses := true, apart := false }
def FnExactLessFrameSaid : Prop := fnExactLessFrameRow.holds Try.pinned (OpenSpec.ofChange fnExactLessFrameSpec)

/-- ITS FALSE NEIGHBOUR: 'it returns false'. Refute it at one input. -/
def fnExactLessFrameWrong : ChangeSpec := { name := "fnExactLessFrame", fn := fun _ => fun
  | [d1, d2] => { results := [.lit (.bool false)], args := [d1, d2] }
  | _ => none }
def FnExactLessFrameWrongFalsely : Prop := fnExactLessFrameRow.holds Try.pinned (OpenSpec.ofChange fnExactLessFrameWrong)

/-- 'laws.FnExactWithDot': WHATEVER THE INPUT: true; the input reads as it did. -/
def fnExactWithDotSpec : ChangeSpec := { name := "fnExactWithDot", fn := fun _ => fun
  | [d1, d2, d3, d4] => { results := [.lit (.bool true)], args := [d1, d2, d3, d4] }
  | _ => none }
def fnExactWithDotRow : OpenClaim := { program := "ytdiphapcjafbaaa", sum := "e1e402cd31da649e68f7f4ee73137fad2cc41bdf912882769697e0b6d9c4a581", func := "loop.example/g01340/laws.FnExactWithDot", spec := "fnExactWithDot", unfollowed := true, recurses := true, apart := false }
def FnExactWithDotSaid : Prop := fnExactWithDotRow.holds Try.pinned (OpenSpec.ofChange fnExactWithDotSpec)

/-- ITS FALSE NEIGHBOUR: 'it returns false'. Refute it at one input. -/
def fnExactWithDotWrong : ChangeSpec := { name := "fnExactWithDot", fn := fun _ => fun
  | [d1, d2, d3, d4] => { results := [.lit (.bool false)], args := [d1, d2, d3, d4] }
  | _ => none }
def FnExactWithDotWrongFalsely : Prop := fnExactWithDotRow.holds Try.pinned (OpenSpec.ofChange fnExactWithDotWrong)

/-- 'laws.FnExactMirrorFrame': WHATEVER THE INPUT: true; the input reads as it did. -/
def fnExactMirrorFrameSpec : ChangeSpec := { name := "fnExactMirrorFrame", fn := fun _ => fun
  | [d] => { results := [.lit (.bool true)], args := [d] }
  | _ => none }
def fnExactMirrorFrameRow : OpenClaim := { program := "ytdiphapcjafbaaa", sum := "e1e402cd31da649e68f7f4ee73137fad2cc41bdf912882769697e0b6d9c4a581", func := "loop.example/g01340/laws.FnExactMirrorFrame", spec := "fnExactMirrorFrame", unfollowed := true, recurses := true, apart := false }
def FnExactMirrorFrameSaid : Prop := fnExactMirrorFrameRow.holds Try.pinned (OpenSpec.ofChange fnExactMirrorFrameSpec)

/-- ITS FALSE NEIGHBOUR: 'it returns false'. Refute it at one input. -/
def fnExactMirrorFrameWrong : ChangeSpec := { name := "fnExactMirrorFrame", fn := fun _ => fun
  | [d] => { results := [.lit (.bool false)], args := [d] }
  | _ => none }
def FnExactMirrorFrameWrongFalsely : Prop := fnExactMirrorFrameRow.holds Try.pinned (OpenSpec.ofChange fnExactMirrorFrameWrong)

/-- 'laws.FnExactTurnFrame': WHATEVER THE INPUT: true; the input reads as it did. -/
def fnExactTurnFrameSpec : ChangeSpec := { name := "fnExactTurnFrame", fn := fun _ => fun
  | [d] => { results := [.lit (.bool true)], args := [d] }
  | _ => none }
def fnExactTurnFrameRow : OpenClaim := { program := "ytdiphapcjafbaaa", sum := "e1e402cd31da649e68f7f4ee73137fad2cc41bdf912882769697e0b6d9c4a581", func := "loop.example/g01340/laws.FnExactTurnFrame", spec := "fnExactTurnFrame", unfollowed := true, recurses := true, apart := false }
def FnExactTurnFrameSaid : Prop := fnExactTurnFrameRow.holds Try.pinned (OpenSpec.ofChange fnExactTurnFrameSpec)

/-- ITS FALSE NEIGHBOUR: 'it returns false'. Refute it at one input. -/
def fnExactTurnFrameWrong : ChangeSpec := { name := "fnExactTurnFrame", fn := fun _ => fun
  | [d] => { results := [.lit (.bool false)], args := [d] }
  | _ => none }
def FnExactTurnFrameWrongFalsely : Prop := fnExactTurnFrameRow.holds Try.pinned (OpenSpec.ofChange fnExactTurnFrameWrong)

/-- 'laws.FnExactDifferBy': WHATEVER THE INPUT: true; the input reads as it did. -/
def fnExactDifferBySpec : ChangeSpec := { name := "fnExactDifferBy", fn := fun _ => fun
  | [d1, d2] => { results := [.lit (.bool true)], args := [d1, d2] }
  | _ => none }
def fnExactDifferByRow : OpenClaim := { program := "ytdiphapcjafbaaa", sum := "e1e402cd31da649e68f7f4ee73137fad2cc41bdf912882769697e0b6d9c4a581", func := "loop.example/g01340/laws.FnExactDifferBy", spec := "fnExactDifferBy", unfollowed := true, recurses := true, apart := false }
def FnExactDifferBySaid : Prop := fnExactDifferByRow.holds Try.pinned (OpenSpec.ofChange fnExactDifferBySpec)

/-- ITS FALSE NEIGHBOUR: 'it returns false'. Refute it at one input. -/
def fnExactDifferByWrong : ChangeSpec := { name := "fnExactDifferBy", fn := fun _ => fun
  | [d1, d2] => { results := [.lit (.bool false)], args := [d1, d2] }
  | _ => none }
def FnExactDifferByWrongFalsely : Prop := fnExactDifferByRow.holds Try.pinned (OpenSpec.ofChange fnExactDifferByWrong)

/-- 'laws.FnExactFrameText': WHATEVER THE INPUT: true; the input reads as it did. -/
def fnExactFrameTextSpec : ChangeSpec := { name := "fnExactFrameText", fn := fun _ => fun
  | [d] => { results := [.lit (.bool true)], args := [d] }
  | _ => none }
def fnExactFrameTextRow : OpenClaim := { program := "ytdiphapcjafbaaa", sum := "e1e402cd31da649e68f7f4ee73137fad2cc41bdf912882769697e0b6d9c4a581", func := "loop.example/g01340/laws.FnExactFrameText", spec := "fnExactFrameText", inPlace := ["internal/abi.NoEscape"], unfollowed := true, recurses := true, apart := false }
def FnExactFrameTextSaid : Prop := fnExactFrameTextRow.holds Try.pinned (OpenSpec.ofChange fnExactFrameTextSpec)

/-- ITS FALSE NEIGHBOUR: 'it returns false'. Refute it at one input. -/
def fnExactFrameTextWrong : ChangeSpec := { name := "fnExactFrameText", fn := fun _ => fun
  | [d] => { results := [.lit (.bool false)], args := [d] }
  | _ => none }
def FnExactFrameTextWrongFalsely : Prop := fnExactFrameTextRow.holds Try.pinned (OpenSpec.ofChange fnExactFrameTextWrong)

/-- 'laws.FnExactFrameFrom': WHATEVER THE INPUT: true; the input reads as it did. -/
def fnExactFrameFromSpec : ChangeSpec := { name := "fnExactFrameFrom", fn := fun _ => fun
  | [d] => { results := [.lit (.bool true)], args := [d] }
  | _ => none }
def fnExactFrameFromRow : OpenClaim := { program := "ytdiphapcjafbaaa", sum := "e1e402cd31da649e68f7f4ee73137fad2cc41bdf912882769697e0b6d9c4a581", func := "loop.example/g01340/laws.FnExactFrameFrom", spec := "fnExactFrameFrom", apart := false }
def FnExactFrameFromSaid : Prop := fnExactFrameFromRow.holds Try.pinned (OpenSpec.ofChange fnExactFrameFromSpec)

/-- ITS FALSE NEIGHBOUR: 'it returns false'. Refute it at one input. -/
def fnExactFrameFromWrong : ChangeSpec := { name := "fnExactFrameFrom", fn := fun _ => fun
  | [d] => { results := [.lit (.bool false)], args := [d] }
  | _ => none }
def FnExactFrameFromWrongFalsely : Prop := fnExactFrameFromRow.holds Try.pinned (OpenSpec.ofChange fnExactFrameFromWrong)

/-- 'laws.FnExactShrinkFrame': WHATEVER THE INPUT: true; the input reads as it did. -/
def fnExactShrinkFrameSpec : ChangeSpec := { name := "fnExactShrinkFrame", fn := fun _ => fun
  | [d] => { results := [.lit (.bool true)], args := [d] }
  | _ => none }
def fnExactShrinkFrameRow : OpenClaim := { program := "ytdiphapcjafbaaa", sum := "e1e402cd31da649e68f7f4ee73137fad2cc41bdf912882769697e0b6d9c4a581", func := "loop.example/g01340/laws.FnExactShrinkFrame", spec := "fnExactShrinkFrame", unfollowed := true, recurses := true, apart := false }
def FnExactShrinkFrameSaid : Prop := fnExactShrinkFrameRow.holds Try.pinned (OpenSpec.ofChange fnExactShrinkFrameSpec)

/-- ITS FALSE NEIGHBOUR: 'it returns false'. Refute it at one input. -/
def fnExactShrinkFrameWrong : ChangeSpec := { name := "fnExactShrinkFrame", fn := fun _ => fun
  | [d] => { results := [.lit (.bool false)], args := [d] }
  | _ => none }
def FnExactShrinkFrameWrongFalsely : Prop := fnExactShrinkFrameRow.holds Try.pinned (OpenSpec.ofChange fnExactShrinkFrameWrong)

/-- 'laws.FnExactDotsOf': WHATEVER THE INPUT: true; the input reads as it did. -/
def fnExactDotsOfSpec : ChangeSpec := { name := "fnExactDotsOf", fn := fun _ => fun
  | [d] => { results := [.lit (.bool true)], args := [d] }
  | _ => none }
def fnExactDotsOfRow : OpenClaim := { program := "ytdiphapcjafbaaa", sum := "e1e402cd31da649e68f7f4ee73137fad2cc41bdf912882769697e0b6d9c4a581", func := "loop.example/g01340/laws.FnExactDotsOf", spec := "fnExactDotsOf", unfollowed := true, recurses := true, apart := false }
def FnExactDotsOfSaid : Prop := fnExactDotsOfRow.holds Try.pinned (OpenSpec.ofChange fnExactDotsOfSpec)

/-- ITS FALSE NEIGHBOUR: 'it returns false'. Refute it at one input. -/
def fnExactDotsOfWrong : ChangeSpec := { name := "fnExactDotsOf", fn := fun _ => fun
  | [d] => { results := [.lit (.bool false)], args := [d] }
  | _ => none }
def FnExactDotsOfWrongFalsely : Prop := fnExactDotsOfRow.holds Try.pinned (OpenSpec.ofChange fnExactDotsOfWrong)

/-- 'laws.FnExactRollFrame': WHATEVER THE INPUT: true; the input reads as it did. -/
def fnExactRollFrameSpec : ChangeSpec := { name := "fnExactRollFrame", fn := fun _ => fun
  | [d1, d2, d3] => { results := [.lit (.bool true)], args := [d1, d2, d3] }
  | _ => none }
def fnExactRollFrameRow : OpenClaim := { program := "ytdiphapcjafbaaa", sum := "e1e402cd31da649e68f7f4ee73137fad2cc41bdf912882769697e0b6d9c4a581", func := "loop.example/g01340/laws.FnExactRollFrame", spec := "fnExactRollFrame", unfollowed := true, recurses := true, apart := false }
def FnExactRollFrameSaid : Prop := fnExactRollFrameRow.holds Try.pinned (OpenSpec.ofChange fnExactRollFrameSpec)

/-- ITS FALSE NEIGHBOUR: 'it returns false'. Refute it at one input. -/
def fnExactRollFrameWrong : ChangeSpec := { name := "fnExactRollFrame", fn := fun _ => fun
  | [d1, d2, d3] => { results := [.lit (.bool false)], args := [d1, d2, d3] }
  | _ => none }
def FnExactRollFrameWrongFalsely : Prop := fnExactRollFrameRow.holds Try.pinned (OpenSpec.ofChange fnExactRollFrameWrong)

/-- 'laws.FnExactCutBox': WHATEVER THE INPUT: true; the input reads as it did. -/
def fnExactCutBoxSpec : ChangeSpec := { name := "fnExactCutBox", fn := fun _ => fun
  | [d1, d2] => { results := [.lit (.bool true)], args := [d1, d2] }
  | _ => none }
def fnExactCutBoxRow : OpenClaim := { program := "ytdiphapcjafbaaa", sum := "e1e402cd31da649e68f7f4ee73137fad2cc41bdf912882769697e0b6d9c4a581", func := "loop.example/g01340/laws.FnExactCutBox", spec := "fnExactCutBox", unfollowed := true, recurses := true, apart := false }
def FnExactCutBoxSaid : Prop := fnExactCutBoxRow.holds Try.pinned (OpenSpec.ofChange fnExactCutBoxSpec)

/-- ITS FALSE NEIGHBOUR: 'it returns false'. Refute it at one input. -/
def fnExactCutBoxWrong : ChangeSpec := { name := "fnExactCutBox", fn := fun _ => fun
  | [d1, d2] => { results := [.lit (.bool false)], args := [d1, d2] }
  | _ => none }
def FnExactCutBoxWrongFalsely : Prop := fnExactCutBoxRow.holds Try.pinned (OpenSpec.ofChange fnExactCutBoxWrong)

/-- 'laws.FnExactReadFrame': WHATEVER THE INPUT: true; the input reads as it did. -/
def fnExactReadFrameSpec : ChangeSpec := { name := "fnExactReadFrame", fn := fun _ => fun
  | [d] => { results := [.lit (.bool true)], args := [d] }
  | _ => none }
def fnExactReadFrameRow : OpenClaim := { program := "ytdiphapcjafbaaa", sum := "e1e402cd31da649e68f7f4ee73137fad2cc41bdf912882769697e0b6d9c4a581", func := "loop.example/g01340/laws.FnExactReadFrame", spec := "fnExactReadFrame", inPlace := ["internal/abi.NoEscape"], unfollowed := true, recurses := true, apart := false }
def FnExactReadFrameSaid : Prop := fnExactReadFrameRow.holds Try.pinned (OpenSpec.ofChange fnExactReadFrameSpec)

/-- ITS FALSE NEIGHBOUR: 'it returns false'. Refute it at one input. -/
def fnExactReadFrameWrong : ChangeSpec := { name := "fnExactReadFrame", fn := fun _ => fun
  | [d] => { results := [.lit (.bool false)], args := [d] }
  | _ => none }
def FnExactReadFrameWrongFalsely : Prop := fnExactReadFrameRow.holds Try.pinned (OpenSpec.ofChange fnExactReadFrameWrong)

/-- 'laws.FnExactBoxOf': WHATEVER THE INPUT: true; the input reads as it did. -/
def fnExactBoxOfSpec : ChangeSpec := { name := "fnExactBoxOf", fn := fun _ => fun
  | [d] => { results := [.lit (.bool true)], args := [d] }
  | _ => none }
def fnExactBoxOfRow : OpenClaim := { program := "ytdiphapcjafbaaa", sum := "e1e402cd31da649e68f7f4ee73137fad2cc41bdf912882769697e0b6d9c4a581", func := "loop.example/g01340/laws.FnExactBoxOf", spec := "fnExactBoxOf", unfollowed := true, recurses := true, apart := false }
def FnExactBoxOfSaid : Prop := fnExactBoxOfRow.holds Try.pinned (OpenSpec.ofChange fnExactBoxOfSpec)

/-- ITS FALSE NEIGHBOUR: 'it returns false'. Refute it at one input. -/
def fnExactBoxOfWrong : ChangeSpec := { name := "fnExactBoxOf", fn := fun _ => fun
  | [d] => { results := [.lit (.bool false)], args := [d] }
  | _ => none }
def FnExactBoxOfWrongFalsely : Prop := fnExactBoxOfRow.holds Try.pinned (OpenSpec.ofChange fnExactBoxOfWrong)

/- THE SECOND FORM. 'bulk': how many values and letters a reading holds, each counted each time it is reached (what is shared counts as often as it is met; a slice's spare places count too). A statement '..UptoSaid' is the law's where the arguments, and the package variables that the reading takes, are together of bulk at most 1048576: NARROWER than '..Said'. Prove '..Said' where nothing that the law and all that it calls make is longer than what came in: it says more and counts as full. Else prove '..UptoSaid'. A law counts once. -/
mutual
def uptoBulk {H : Type} : DataW H → Nat
  | .lit (.string bytes) => bytes.length + 1
  | .lit _ => 1
  | .nil => 1
  | .ptr d => uptoBulk d + 1
  | .slice elems spare => uptoBulkAll elems + uptoBulkAll spare + 1
  | .agg parts => uptoBulkAll parts + 1
  | .iface _ d => uptoBulk d + 1
  | .map entries => uptoBulkEntries entries + 1
  | .held _ => 1
def uptoBulkAll {H : Type} : List (DataW H) → Nat
  | [] => 0
  | d :: r => uptoBulk d + uptoBulkAll r
def uptoBulkEntries {H : Type} : List (Lit × DataW H) → Nat
  | [] => 0
  | x :: r => uptoBulkEntry x + uptoBulkEntries r
def uptoBulkEntry {H : Type} : Lit × DataW H → Nat
  | (.string bytes, d) => bytes.length + uptoBulk d + 1
  | (_, d) => uptoBulk d + 1
 end
def uptoSmall : (H : Type) → List (DataW H) → Bool := fun _ ds => decide (uptoBulkAll ds ≤ 1048576)
def OpenSpec.upto (s : _root_.Go.ChangeSpec) : _root_.Go.OpenSpec := { _root_.Go.OpenSpec.ofChange s with cond := some uptoSmall }

/-- 'laws.FnExactValidFrame', WHERE WHAT IT READS IS OF BULK AT MOST 1048576: true; the input reads as it did. -/
def fnExactValidFrameUptoRow : OpenClaim := { program := "ytdiphapcjafbaaa", sum := "e1e402cd31da649e68f7f4ee73137fad2cc41bdf912882769697e0b6d9c4a581", func := "loop.example/g01340/laws.FnExactValidFrame", spec := "fnExactValidFrame", unfollowed := true, recurses := true, apart := false, narrowed := true }
def FnExactValidFrameUptoSaid : Prop := fnExactValidFrameUptoRow.holds Try.pinned (OpenSpec.upto fnExactValidFrameSpec)

/-- 'laws.FnExactInvertFrame', WHERE WHAT IT READS IS OF BULK AT MOST 1048576: true; the input reads as it did. -/
def fnExactInvertFrameUptoRow : OpenClaim := { program := "ytdiphapcjafbaaa", sum := "e1e402cd31da649e68f7f4ee73137fad2cc41bdf912882769697e0b6d9c4a581", func := "loop.example/g01340/laws.FnExactInvertFrame", spec := "fnExactInvertFrame", unfollowed := true, recurses := true, apart := false, narrowed := true }
def FnExactInvertFrameUptoSaid : Prop := fnExactInvertFrameUptoRow.holds Try.pinned (OpenSpec.upto fnExactInvertFrameSpec)

/-- 'laws.FnExactFlipFrame', WHERE WHAT IT READS IS OF BULK AT MOST 1048576: true; the input reads as it did. -/
def fnExactFlipFrameUptoRow : OpenClaim := { program := "ytdiphapcjafbaaa", sum := "e1e402cd31da649e68f7f4ee73137fad2cc41bdf912882769697e0b6d9c4a581", func := "loop.example/g01340/laws.FnExactFlipFrame", spec := "fnExactFlipFrame", unfollowed := true, recurses := true, apart := false, narrowed := true }
def FnExactFlipFrameUptoSaid : Prop := fnExactFlipFrameUptoRow.holds Try.pinned (OpenSpec.upto fnExactFlipFrameSpec)

/-- 'laws.FnExactHasDot', WHERE WHAT IT READS IS OF BULK AT MOST 1048576: true; the input reads as it did. -/
def fnExactHasDotUptoRow : OpenClaim := { program := "ytdiphapcjafbaaa", sum := "e1e402cd31da649e68f7f4ee73137fad2cc41bdf912882769697e0b6d9c4a581", func := "loop.example/g01340/laws.FnExactHasDot", spec := "fnExactHasDot", unfollowed := true, recurses := true, apart := false, narrowed := true }
def FnExactHasDotUptoSaid : Prop := fnExactHasDotUptoRow.holds Try.pinned (OpenSpec.upto fnExactHasDotSpec)

/-- 'laws.FnExactCountDots', WHERE WHAT IT READS IS OF BULK AT MOST 1048576: true; the input reads as it did. -/
def fnExactCountDotsUptoRow : OpenClaim := { program := "ytdiphapcjafbaaa", sum := "e1e402cd31da649e68f7f4ee73137fad2cc41bdf912882769697e0b6d9c4a581", func := "loop.example/g01340/laws.FnExactCountDots", spec := "fnExactCountDots", unfollowed := true, recurses := true, apart := false, narrowed := true }
def FnExactCountDotsUptoSaid : Prop := fnExactCountDotsUptoRow.holds Try.pinned (OpenSpec.upto fnExactCountDotsSpec)

/-- 'laws.FnExactMeetFrames', WHERE WHAT IT READS IS OF BULK AT MOST 1048576: true; the input reads as it did. -/
def fnExactMeetFramesUptoRow : OpenClaim := { program := "ytdiphapcjafbaaa", sum := "e1e402cd31da649e68f7f4ee73137fad2cc41bdf912882769697e0b6d9c4a581", func := "loop.example/g01340/laws.FnExactMeetFrames", spec := "fnExactMeetFrames", unfollowed := true, recurses := true, apart := false, narrowed := true }
def FnExactMeetFramesUptoSaid : Prop := fnExactMeetFramesUptoRow.holds Try.pinned (OpenSpec.upto fnExactMeetFramesSpec)

/-- 'laws.FnExactJoinFrames', WHERE WHAT IT READS IS OF BULK AT MOST 1048576: true; the input reads as it did. -/
def fnExactJoinFramesUptoRow : OpenClaim := { program := "ytdiphapcjafbaaa", sum := "e1e402cd31da649e68f7f4ee73137fad2cc41bdf912882769697e0b6d9c4a581", func := "loop.example/g01340/laws.FnExactJoinFrames", spec := "fnExactJoinFrames", unfollowed := true, recurses := true, apart := false, narrowed := true }
def FnExactJoinFramesUptoSaid : Prop := fnExactJoinFramesUptoRow.holds Try.pinned (OpenSpec.upto fnExactJoinFramesSpec)

/-- 'laws.FnExactLessFrame', WHERE WHAT IT READS IS OF BULK AT MOST 1048576: true; the input reads as it did. -/
def fnExactLessFrameUptoRow : OpenClaim := { program := "ytdiphapcjafbaaa", sum := "e1e402cd31da649e68f7f4ee73137fad2cc41bdf912882769697e0b6d9c4a581", func := "loop.example/g01340/laws.FnExactLessFrame", spec := "fnExactLessFrame", unfollowed := true, recurses := true, apart := false, narrowed := true }
def FnExactLessFrameUptoSaid : Prop := fnExactLessFrameUptoRow.holds Try.pinned (OpenSpec.upto fnExactLessFrameSpec)

/-- 'laws.FnExactWithDot', WHERE WHAT IT READS IS OF BULK AT MOST 1048576: true; the input reads as it did. -/
def fnExactWithDotUptoRow : OpenClaim := { program := "ytdiphapcjafbaaa", sum := "e1e402cd31da649e68f7f4ee73137fad2cc41bdf912882769697e0b6d9c4a581", func := "loop.example/g01340/laws.FnExactWithDot", spec := "fnExactWithDot", unfollowed := true, recurses := true, apart := false, narrowed := true }
def FnExactWithDotUptoSaid : Prop := fnExactWithDotUptoRow.holds Try.pinned (OpenSpec.upto fnExactWithDotSpec)

/-- 'laws.FnExactMirrorFrame', WHERE WHAT IT READS IS OF BULK AT MOST 1048576: true; the input reads as it did. -/
def fnExactMirrorFrameUptoRow : OpenClaim := { program := "ytdiphapcjafbaaa", sum := "e1e402cd31da649e68f7f4ee73137fad2cc41bdf912882769697e0b6d9c4a581", func := "loop.example/g01340/laws.FnExactMirrorFrame", spec := "fnExactMirrorFrame", unfollowed := true, recurses := true, apart := false, narrowed := true }
def FnExactMirrorFrameUptoSaid : Prop := fnExactMirrorFrameUptoRow.holds Try.pinned (OpenSpec.upto fnExactMirrorFrameSpec)

/-- 'laws.FnExactTurnFrame', WHERE WHAT IT READS IS OF BULK AT MOST 1048576: true; the input reads as it did. -/
def fnExactTurnFrameUptoRow : OpenClaim := { program := "ytdiphapcjafbaaa", sum := "e1e402cd31da649e68f7f4ee73137fad2cc41bdf912882769697e0b6d9c4a581", func := "loop.example/g01340/laws.FnExactTurnFrame", spec := "fnExactTurnFrame", unfollowed := true, recurses := true, apart := false, narrowed := true }
def FnExactTurnFrameUptoSaid : Prop := fnExactTurnFrameUptoRow.holds Try.pinned (OpenSpec.upto fnExactTurnFrameSpec)

/-- 'laws.FnExactDifferBy', WHERE WHAT IT READS IS OF BULK AT MOST 1048576: true; the input reads as it did. -/
def fnExactDifferByUptoRow : OpenClaim := { program := "ytdiphapcjafbaaa", sum := "e1e402cd31da649e68f7f4ee73137fad2cc41bdf912882769697e0b6d9c4a581", func := "loop.example/g01340/laws.FnExactDifferBy", spec := "fnExactDifferBy", unfollowed := true, recurses := true, apart := false, narrowed := true }
def FnExactDifferByUptoSaid : Prop := fnExactDifferByUptoRow.holds Try.pinned (OpenSpec.upto fnExactDifferBySpec)

/-- 'laws.FnExactFrameText', WHERE WHAT IT READS IS OF BULK AT MOST 1048576: true; the input reads as it did. -/
def fnExactFrameTextUptoRow : OpenClaim := { program := "ytdiphapcjafbaaa", sum := "e1e402cd31da649e68f7f4ee73137fad2cc41bdf912882769697e0b6d9c4a581", func := "loop.example/g01340/laws.FnExactFrameText", spec := "fnExactFrameText", inPlace := ["internal/abi.NoEscape"], unfollowed := true, recurses := true, apart := false, narrowed := true }
def FnExactFrameTextUptoSaid : Prop := fnExactFrameTextUptoRow.holds Try.pinned (OpenSpec.upto fnExactFrameTextSpec)

/-- 'laws.FnExactFrameFrom', WHERE WHAT IT READS IS OF BULK AT MOST 1048576: true; the input reads as it did. -/
def fnExactFrameFromUptoRow : OpenClaim := { program := "ytdiphapcjafbaaa", sum := "e1e402cd31da649e68f7f4ee73137fad2cc41bdf912882769697e0b6d9c4a581", func := "loop.example/g01340/laws.FnExactFrameFrom", spec := "fnExactFrameFrom", apart := false, narrowed := true }
def FnExactFrameFromUptoSaid : Prop := fnExactFrameFromUptoRow.holds Try.pinned (OpenSpec.upto fnExactFrameFromSpec)

/-- 'laws.FnExactShrinkFrame', WHERE WHAT IT READS IS OF BULK AT MOST 1048576: true; the input reads as it did. -/
def fnExactShrinkFrameUptoRow : OpenClaim := { program := "ytdiphapcjafbaaa", sum := "e1e402cd31da649e68f7f4ee73137fad2cc41bdf912882769697e0b6d9c4a581", func := "loop.example/g01340/laws.FnExactShrinkFrame", spec := "fnExactShrinkFrame", unfollowed := true, recurses := true, apart := false, narrowed := true }
def FnExactShrinkFrameUptoSaid : Prop := fnExactShrinkFrameUptoRow.holds Try.pinned (OpenSpec.upto fnExactShrinkFrameSpec)

/-- 'laws.FnExactDotsOf', WHERE WHAT IT READS IS OF BULK AT MOST 1048576: true; the input reads as it did. -/
def fnExactDotsOfUptoRow : OpenClaim := { program := "ytdiphapcjafbaaa", sum := "e1e402cd31da649e68f7f4ee73137fad2cc41bdf912882769697e0b6d9c4a581", func := "loop.example/g01340/laws.FnExactDotsOf", spec := "fnExactDotsOf", unfollowed := true, recurses := true, apart := false, narrowed := true }
def FnExactDotsOfUptoSaid : Prop := fnExactDotsOfUptoRow.holds Try.pinned (OpenSpec.upto fnExactDotsOfSpec)

/-- 'laws.FnExactRollFrame', WHERE WHAT IT READS IS OF BULK AT MOST 1048576: true; the input reads as it did. -/
def fnExactRollFrameUptoRow : OpenClaim := { program := "ytdiphapcjafbaaa", sum := "e1e402cd31da649e68f7f4ee73137fad2cc41bdf912882769697e0b6d9c4a581", func := "loop.example/g01340/laws.FnExactRollFrame", spec := "fnExactRollFrame", unfollowed := true, recurses := true, apart := false, narrowed := true }
def FnExactRollFrameUptoSaid : Prop := fnExactRollFrameUptoRow.holds Try.pinned (OpenSpec.upto fnExactRollFrameSpec)

/-- 'laws.FnExactCutBox', WHERE WHAT IT READS IS OF BULK AT MOST 1048576: true; the input reads as it did. -/
def fnExactCutBoxUptoRow : OpenClaim := { program := "ytdiphapcjafbaaa", sum := "e1e402cd31da649e68f7f4ee73137fad2cc41bdf912882769697e0b6d9c4a581", func := "loop.example/g01340/laws.FnExactCutBox", spec := "fnExactCutBox", unfollowed := true, recurses := true, apart := false, narrowed := true }
def FnExactCutBoxUptoSaid : Prop := fnExactCutBoxUptoRow.holds Try.pinned (OpenSpec.upto fnExactCutBoxSpec)

/-- 'laws.FnExactReadFrame', WHERE WHAT IT READS IS OF BULK AT MOST 1048576: true; the input reads as it did. -/
def fnExactReadFrameUptoRow : OpenClaim := { program := "ytdiphapcjafbaaa", sum := "e1e402cd31da649e68f7f4ee73137fad2cc41bdf912882769697e0b6d9c4a581", func := "loop.example/g01340/laws.FnExactReadFrame", spec := "fnExactReadFrame", inPlace := ["internal/abi.NoEscape"], unfollowed := true, recurses := true, apart := false, narrowed := true }
def FnExactReadFrameUptoSaid : Prop := fnExactReadFrameUptoRow.holds Try.pinned (OpenSpec.upto fnExactReadFrameSpec)

/-- 'laws.FnExactBoxOf', WHERE WHAT IT READS IS OF BULK AT MOST 1048576: true; the input reads as it did. -/
def fnExactBoxOfUptoRow : OpenClaim := { program := "ytdiphapcjafbaaa", sum := "e1e402cd31da649e68f7f4ee73137fad2cc41bdf912882769697e0b6d9c4a581", func := "loop.example/g01340/laws.FnExactBoxOf", spec := "fnExactBoxOf", unfollowed := true, recurses := true, apart := false, narrowed := true }
def FnExactBoxOfUptoSaid : Prop := fnExactBoxOfUptoRow.holds Try.pinned (OpenSpec.upto fnExactBoxOfSpec)

end Rows
end Go.Proofs.Ytdiphapcjafbaaa
