/- Reading integers, plain. -/
import Derived.Test.YtflpefkohpjjpaaGreatDoorQJNumP
import Derived.Test.YtflpefkohpjjpaaGreatDoorQJR1b
set_option linter.unusedSimpArgs false
set_option linter.unusedVariables false
namespace Go.Proofs.YtflpefkohpjjpaaGreatDoor
open Go.RowKit
theorem aaz(s:ByteArray)(i:Nat)(h:i<s.size):rest s i=s[i]::rest s (i+1):=by
 unfold rest
 have h':i<s.data.toList.length:=by simpa using h
 rw[List.drop_eq_getElem_cons h']
 rfl
end Go.Proofs.YtflpefkohpjjpaaGreatDoor
