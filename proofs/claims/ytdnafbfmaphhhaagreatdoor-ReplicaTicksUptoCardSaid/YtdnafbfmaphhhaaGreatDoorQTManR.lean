/- Contracts that were shown by hand, in the form that the printed ones have. -/
import Derived.Test.YtdnafbfmaphhhaaGreatDoorQT5
import Derived.Test.YtdnafbfmaphhhaaGreatDoorQTSlC
set_option linter.unusedSimpArgs false
set_option linter.unusedVariables false
namespace Go.Proofs.YtdnafbfmaphhhaaGreatDoor
open Go.RowKit
end Go.Proofs.YtdnafbfmaphhhaaGreatDoor
