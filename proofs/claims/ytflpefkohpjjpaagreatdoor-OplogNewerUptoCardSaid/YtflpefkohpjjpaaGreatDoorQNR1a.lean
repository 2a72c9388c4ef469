/- docstoreref01: Name, tail, UTF8. -/
import Derived.Test.YtflpefkohpjjpaaGreatDoorQNName
import Derived.Test.YtflpefkohpjjpaaGreatDoorQNUtfP
set_option linter.unusedSimpArgs false
set_option linter.unusedVariables false
namespace Go.Proofs.YtflpefkohpjjpaaGreatDoor
open Go.RowKit Go.Lib
def rest(s:ByteArray)(i:Nat):List UInt8:=s.data.toList.drop i
theorem zM(s:ByteArray)(i:Nat):(rest s i).length=s.size-i:=by simp[rest]
end Go.Proofs.YtflpefkohpjjpaaGreatDoor
