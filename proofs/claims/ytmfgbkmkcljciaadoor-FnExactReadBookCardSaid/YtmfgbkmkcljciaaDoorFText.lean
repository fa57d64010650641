/- A frame's text: the law FrameText; no condition. -/
import Derived.Test.YtmfgbkmkcljciaaDoorText
namespace Go.Proofs.YtmfgbkmkcljciaaDoor
open Go.RowKit
set_option linter.unusedSimpArgs false
set_option linter.unusedVariables false
def ftx (f : List Nat) : ByteArray := if okB f = true then ⟨(txt f).toArray⟩ else ⟨#[]⟩
end Go.Proofs.YtmfgbkmkcljciaaDoor
