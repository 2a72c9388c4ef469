/- docstoreref01: UTF8. -/
import Derived.Test.YtflpefkohpjjpaaGreatDoorQNR1a
import Derived.Test.YtflpefkohpjjpaaGreatDoorQNSnd
set_option linter.unusedSimpArgs false
set_option linter.unusedVariables false
namespace Go.Proofs.YtflpefkohpjjpaaGreatDoor
open Go.RowKit
open Go.Lib hiding intOf
end Go.Proofs.YtflpefkohpjjpaaGreatDoor
