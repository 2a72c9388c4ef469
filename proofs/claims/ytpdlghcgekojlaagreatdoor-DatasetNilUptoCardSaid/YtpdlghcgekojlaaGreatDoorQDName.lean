/- value.isName. -/
import Derived.Test.YtpdlghcgekojlaaGreatDoorQD1
set_option linter.unusedSimpArgs false
set_option linter.unusedVariables false
namespace Go.Proofs.YtpdlghcgekojlaaGreatDoor
open Go.RowKit
def aeA(c:Nat):Bool:=decide (33≤c)&&decide (c≤126)&&!(c==46)
def aeB(l:List UInt8):Bool:=match l with
 |[]=>false
 |c::_=>decide (l.length≤32)&&!(c.toNat==36)&&l.all fun c=>aeA c.toNat
def nameB(s:ByteArray):Bool:=aeB s.data.toList
end Go.Proofs.YtpdlghcgekojlaaGreatDoor
