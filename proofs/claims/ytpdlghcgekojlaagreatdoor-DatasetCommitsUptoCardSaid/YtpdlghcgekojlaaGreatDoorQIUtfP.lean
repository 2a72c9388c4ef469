/- utf8: what the reference's UTF8 asks at a byte, plain. -/
import Derived.Test.YtpdlghcgekojlaaGreatDoorQI1
import Derived.Lib.ValidLaws
set_option linter.unusedSimpArgs false
set_option linter.unusedVariables false
namespace Go.Proofs.YtpdlghcgekojlaaGreatDoor
open Go.Lib
end Go.Proofs.YtpdlghcgekojlaaGreatDoor
