/- All that is printed. -/
import Derived.Test.YtflpefkohpjjpaaGreatDoorQNNw6
set_option linter.unusedSimpArgs false
set_option linter.unusedVariables false
namespace Go.Proofs.YtflpefkohpjjpaaGreatDoor
theorem Iz:Yd=some true:=by kernel_rfl
end Go.Proofs.YtflpefkohpjjpaaGreatDoor
