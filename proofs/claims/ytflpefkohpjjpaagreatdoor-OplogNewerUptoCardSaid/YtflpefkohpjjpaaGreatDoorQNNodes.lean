/- value.nodes and value.depth. -/
import Derived.Test.YtflpefkohpjjpaaGreatDoorQNEach
import Derived.Test.YtflpefkohpjjpaaGreatDoorQN2
set_option linter.unusedSimpArgs false
set_option linter.unusedVariables false
namespace Go.Proofs.YtflpefkohpjjpaaGreatDoor
open Go.RowKit
theorem jF(x:Int)(h0 : -9223372036854775808≤x)(h1:x<9223372036854775808):IntKind.i64.wrap x=x:=by
 rw[IntKind.wrap_i64];omega
end Go.Proofs.YtflpefkohpjjpaaGreatDoor
