/- docstoreref01: Name, tail, UTF8. -/
import Derived.Test.YtflpefkohpjjpaaGreatDoorQYName
import Derived.Test.YtflpefkohpjjpaaGreatDoorQYUtfP
set_option linter.unusedSimpArgs false
set_option linter.unusedVariables false
namespace Go.Proofs.YtflpefkohpjjpaaGreatDoor
open Go.RowKit Go.Lib
def rest(s:ByteArray)(i:Nat):List UInt8:=s.data.toList.drop i
theorem Qq(s:ByteArray)(i:Nat):(rest s i).length=s.size-i:=by simp[rest]
end Go.Proofs.YtflpefkohpjjpaaGreatDoor
