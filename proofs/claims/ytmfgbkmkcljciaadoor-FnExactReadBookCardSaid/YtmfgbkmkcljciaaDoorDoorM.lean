/- What a row of a door tells of the library's cell; no condition. -/
import Derived.Test.YtmfgbkmkcljciaaDoorDoorW
import Derived.Test.YtmfgbkmkcljciaaDoorRb
namespace Go.Proofs.YtmfgbkmkcljciaaDoor
open Go.RowKit
theorem globs {L : List (String × DataW Unit)} {W : World} (_hL : laidMet Tryd.prog L W) (h : W.ShapedOpen Tryd.prog) : GlobM W := max_of h
end Go.Proofs.YtmfgbkmkcljciaaDoor
