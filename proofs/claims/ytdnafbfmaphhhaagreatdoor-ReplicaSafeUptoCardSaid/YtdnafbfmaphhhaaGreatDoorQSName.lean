/- value.isName. -/
import Derived.Test.YtdnafbfmaphhhaaGreatDoorQS1
set_option linter.unusedSimpArgs false
set_option linter.unusedVariables false
namespace Go.Proofs.YtdnafbfmaphhhaaGreatDoor
open Go.RowKit
/-- a byte of a name -/
def Yy (c:Nat) : Bool := decide (33 ≤ c) && decide (c ≤ 126) && !(c == 46)
def Yz (l:List UInt8) : Bool := match l with
  | []=>false
  | c :: _=>decide (l.length ≤ 32) && !(c.toNat == 36) && l.all fun c=>Yy c.toNat
def nameB (s:ByteArray) : Bool := Yz s.data.toList
end Go.Proofs.YtdnafbfmaphhhaaGreatDoor
