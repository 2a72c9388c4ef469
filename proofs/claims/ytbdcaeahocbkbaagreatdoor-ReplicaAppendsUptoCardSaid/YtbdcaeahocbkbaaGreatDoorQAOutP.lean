/- The code of data: every leaf in turn. -/
import Derived.Test.YtbdcaeahocbkbaaGreatDoorQA3
import Derived.Test.YtbdcaeahocbkbaaGreatDoorQANumP
set_option linter.unusedSimpArgs false
set_option linter.unusedVariables false
namespace Go.Proofs.YtbdcaeahocbkbaaGreatDoor
open Go.RowKit
mutual
def codeF:Lf→List UInt8
 |.int _ n=>vM (zz n)
 |.str s=>vM (zz (s.size:Int))++s.data.toList
 |.bool b=>[if b then 1 else 0]
 |.rows _ l=>vM (zz (l.length:Int))++BG l
def BG:List (List Lf)→List UInt8
 |[]=>[]
 |r::q=>oD r++BG q
def oD:List Lf→List UInt8
 |[]=>[]
 |x::r=>codeF x++oD r
end
theorem zx(r s:List Lf):oD (r++s)=oD r++oD s:=by
 induction r with
 |nil=>simp[oD]
 |cons x r ih=>simp only[List.cons_append,oD,ih,List.append_assoc]
end Go.Proofs.YtbdcaeahocbkbaaGreatDoor
