/- sound: plain. And utf8.ValidString at this program. -/
import Derived.Test.YtpdlghcgekojlaaGreatDoorQITrN
import Derived.Test.YtpdlghcgekojlaaGreatDoorQIName
import Derived.Test.YtpdlghcgekojlaaGreatDoorQISeen
import Derived.Test.YtpdlghcgekojlaaGreatDoorLay
set_option linter.unusedSimpArgs false
set_option linter.unusedVariables false
namespace Go.Proofs.YtpdlghcgekojlaaGreatDoor
open Go.RowKit Go.Shelf Go.Lib
def Tabs(w:World):Prop:=Lib.Utf8Tabs (Tryz.laysValid_ren.g 3) (Tryz.laysValid_ren.g 4) w
theorem Tabs.ext{w w':World}(h:Tabs w)(he:Ext w w'):Tabs w':=Utf8Tabs_below h he.below
def Wp(s:ByteArray):Bool:=Lib.validD s.data.toList
theorem Ew(s:ByteArray)(w:World)(hs:s.size≤maxLen)(hT:Tabs w):Calls Tryz.prog 215 #[.string s] w fun e w'=>e=.returned (.bool (Wp s))∧Ext w w':=
 Any.utf8_ValidString Tryz.laysValid s w (by unfold maxLen at hs;omega) hT
def Ey(k i:Int)(s:ByteArray)(nl nd:Nat):Bool:=
 (k==3||k==9||k==10||i==0)&&(k==4||k==7||k==8||decide (s.size=0))&&(k==6||nl==0)&&(k==5||nd==0)
def Ez(k i:Int)(s:ByteArray):Bool:=
 if k=1∨k=2∨k=11∨k=3 then true else if k=9 then i==0||i==1 else if k=10 then decide (0≤i) else if k=4 then decide (s.size≤4096)&&Wp s else if k=7 then decide (s.size≤4096)
 else if k=8 then decide (s.size=12) else decide (k=6∨k=5)
mutual
def snd:Tr→Bool|.mk k i s l ns ds=>Ey k i s l.length ds.length&&Ez k i s&&alj l&&alk [] ns ds
def alj:List Tr→Bool|[]=>true|t::r=>snd t&&alj r
def alk:List ByteArray→List ByteArray→List Tr→Bool
 |_,_,[]=>true
 |_,[],_::_=>false
 |seen,n::nr,t::r=>nameB n&&!abd seen n&&snd t&&alk (n::seen) nr r
end
end Go.Proofs.YtpdlghcgekojlaaGreatDoor
