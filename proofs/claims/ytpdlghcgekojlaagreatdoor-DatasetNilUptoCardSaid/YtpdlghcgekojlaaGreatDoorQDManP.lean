/- Contracts of the library's string functions, in the form that the printed ones have. -/
import Derived.Test.YtpdlghcgekojlaaGreatDoorQD5
import Derived.Test.YtpdlghcgekojlaaGreatDoorQDUtfP
import Derived.Laws.Externs
set_option linter.unusedSimpArgs false
set_option linter.unusedVariables false
namespace Go.Proofs.YtpdlghcgekojlaaGreatDoor
open Go.RowKit
end Go.Proofs.YtpdlghcgekojlaaGreatDoor
