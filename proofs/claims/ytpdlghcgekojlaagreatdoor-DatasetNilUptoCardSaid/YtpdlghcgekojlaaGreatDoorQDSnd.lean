/- sound: plain. And utf8.ValidString at this program. -/
import Derived.Test.YtpdlghcgekojlaaGreatDoorQDTrN
import Derived.Test.YtpdlghcgekojlaaGreatDoorQDName
import Derived.Test.YtpdlghcgekojlaaGreatDoorQDSeen
import Derived.Test.YtpdlghcgekojlaaGreatDoorLay
set_option linter.unusedSimpArgs false
set_option linter.unusedVariables false
namespace Go.Proofs.YtpdlghcgekojlaaGreatDoor
open Go.RowKit Go.Shelf Go.Lib
def Tabs(w:World):Prop:=Lib.Utf8Tabs (Tryz.laysValid_ren.g 3) (Tryz.laysValid_ren.g 4) w
theorem Tabs.ext{w w':World}(h:Tabs w)(he:Ext w w'):Tabs w':=Utf8Tabs_below h he.below
def aeC(s:ByteArray):Bool:=Lib.validD s.data.toList
def acS(k i:Int)(s:ByteArray)(nl nd:Nat):Bool:=
 (k==3||k==9||k==10||i==0)&&(k==4||k==7||k==8||decide (s.size=0))&&(k==6||nl==0)&&(k==5||nd==0)
def acT(k i:Int)(s:ByteArray):Bool:=
 if k=1∨k=2∨k=11∨k=3 then true else if k=9 then i==0||i==1 else if k=10 then decide (0≤i) else if k=4 then decide (s.size≤4096)&&aeC s else if k=7 then decide (s.size≤4096)
 else if k=8 then decide (s.size=12) else decide (k=6∨k=5)
mutual
def snd:Tr→Bool|.mk k i s l ns ds=>acS k i s l.length ds.length&&acT k i s&&aeD l&&aeE [] ns ds
def aeD:List Tr→Bool|[]=>true|t::r=>snd t&&aeD r
def aeE:List ByteArray→List ByteArray→List Tr→Bool
 |_,_,[]=>true
 |_,[],_::_=>false
 |seen,n::nr,t::r=>nameB n&&!Qu seen n&&snd t&&aeE (n::seen) nr r
end
end Go.Proofs.YtpdlghcgekojlaaGreatDoor
