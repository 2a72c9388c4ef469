/- docstoreref01: Name, tail, UTF8. -/
import Derived.Test.YtflpefkohpjjpaaGreatDoorQJName
import Derived.Test.YtflpefkohpjjpaaGreatDoorQJUtfP
set_option linter.unusedSimpArgs false
set_option linter.unusedVariables false
namespace Go.Proofs.YtflpefkohpjjpaaGreatDoor
open Go.RowKit Go.Lib
def rest(s:ByteArray)(i:Nat):List UInt8:=s.data.toList.drop i
theorem pR(s:ByteArray)(i:Nat):(rest s i).length=s.size-i:=by simp[rest]
theorem PD(s:ByteArray)(i k:Nat)(h:i+k<s.size):(rest s i)[k]?=some s[i+k]:=by
 unfold rest;rw[List.getElem?_drop];exact byte_at s (i+k) h
theorem pU(s:ByteArray)(i k:Nat)(h:i+k<s.size):(rest s i).getD k 0=s[i+k]:=by
 rw[List.getD_eq_getElem?_getD,PD s i k h];rfl
end Go.Proofs.YtflpefkohpjjpaaGreatDoor
