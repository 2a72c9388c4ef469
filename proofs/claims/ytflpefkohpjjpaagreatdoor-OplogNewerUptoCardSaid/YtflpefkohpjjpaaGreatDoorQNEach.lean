/- value.each, with a closure that keeps a number. -/
import Derived.Test.YtflpefkohpjjpaaGreatDoorQNTrN
import Derived.Test.YtflpefkohpjjpaaGreatDoorQN1
import Derived.Test.YtflpefkohpjjpaaGreatDoorQN2
set_option linter.unusedSimpArgs false
set_option linter.unusedVariables false
namespace Go.Proofs.YtflpefkohpjjpaaGreatDoor
open Go.RowKit
end Go.Proofs.YtflpefkohpjjpaaGreatDoor
