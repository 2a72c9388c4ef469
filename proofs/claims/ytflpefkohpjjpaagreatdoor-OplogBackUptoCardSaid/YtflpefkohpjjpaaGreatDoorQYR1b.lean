/- docstoreref01: UTF8. -/
import Derived.Test.YtflpefkohpjjpaaGreatDoorQYR1a
import Derived.Test.YtflpefkohpjjpaaGreatDoorQYSnd
set_option linter.unusedSimpArgs false
set_option linter.unusedVariables false
namespace Go.Proofs.YtflpefkohpjjpaaGreatDoor
open Go.RowKit
open Go.Lib hiding intOf
theorem YM(s:ByteArray)(i k:Nat):(rest s i).drop k=rest s (i+k):=by simp[rest]
end Go.Proofs.YtflpefkohpjjpaaGreatDoor
