/- Integers in groups of seven bits, plain. -/
import Derived.Test.YtflpefkohpjjpaaGreatDoorQJBuf
import Derived.Test.YtflpefkohpjjpaaGreatDoorQJ1
import Derived.Laws.BitsAllLaws
import Derived.Laws.Bits64
import Derived.Laws.Bits64b
import Derived.Laws.DeepNot64
set_option linter.unusedSimpArgs false
set_option linter.unusedVariables false
namespace Go.Proofs.YtflpefkohpjjpaaGreatDoor
open Go.RowKit
def zz(n:Int):Nat:=if 0≤n then(2*n).toNat else(-2*n-1).toNat
def aoj(u:Nat):List UInt8:=if u<128 then [UInt8.ofNat u] else UInt8.ofNat (u%128+128)::aoj (u/128)
termination_by u
end Go.Proofs.YtflpefkohpjjpaaGreatDoor
