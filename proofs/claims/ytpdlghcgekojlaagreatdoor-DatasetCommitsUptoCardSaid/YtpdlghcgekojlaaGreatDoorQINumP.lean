/- Integers in groups of seven bits, plain. -/
import Derived.Test.YtpdlghcgekojlaaGreatDoorQIBuf
import Derived.Test.YtpdlghcgekojlaaGreatDoorQI1
import Derived.Laws.BitsAllLaws
import Derived.Laws.Bits64
import Derived.Laws.Bits64b
import Derived.Laws.DeepNot64
set_option linter.unusedSimpArgs false
set_option linter.unusedVariables false
namespace Go.Proofs.YtpdlghcgekojlaaGreatDoor
open Go.RowKit
theorem vH(x:Int):IntKind.u64.wrap x=x%18446744073709551616:=by
 simp[IntKind.wrap,IntKind.bits,IntKind.signed]
end Go.Proofs.YtpdlghcgekojlaaGreatDoor
