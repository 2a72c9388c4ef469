/- value.each, with a closure that keeps a number. -/
import Derived.Test.YtflpefkohpjjpaaGreatDoorQPTrN
import Derived.Test.YtflpefkohpjjpaaGreatDoorQP1
import Derived.Test.YtflpefkohpjjpaaGreatDoorQP2
set_option linter.unusedSimpArgs false
set_option linter.unusedVariables false
namespace Go.Proofs.YtflpefkohpjjpaaGreatDoor
open Go.RowKit
end Go.Proofs.YtflpefkohpjjpaaGreatDoor
