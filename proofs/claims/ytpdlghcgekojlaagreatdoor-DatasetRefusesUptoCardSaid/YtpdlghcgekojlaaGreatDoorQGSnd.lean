/- sound: plain. And utf8.ValidString at this program. -/
import Derived.Test.YtpdlghcgekojlaaGreatDoorQGTrN
import Derived.Test.YtpdlghcgekojlaaGreatDoorQGName
import Derived.Test.YtpdlghcgekojlaaGreatDoorQGSeen
import Derived.Test.YtpdlghcgekojlaaGreatDoorLay
set_option linter.unusedSimpArgs false
set_option linter.unusedVariables false
namespace Go.Proofs.YtpdlghcgekojlaaGreatDoor
open Go.RowKit Go.Shelf Go.Lib
def Tabs(w:World):Prop:=Lib.Utf8Tabs (Tryz.laysValid_ren.g 3) (Tryz.laysValid_ren.g 4) w
theorem Tabs.ext{w w':World}(h:Tabs w)(he:Ext w w'):Tabs w':=Utf8Tabs_below h he.below
def Xa(s:ByteArray):Bool:=Lib.validD s.data.toList
theorem Eu(s:ByteArray)(w:World)(hs:s.size≤maxLen)(hT:Tabs w):Calls Tryz.prog 215 #[.string s] w fun e w'=>e=.returned (.bool (Xa s))∧Ext w w':=
 Any.utf8_ValidString Tryz.laysValid s w (by unfold maxLen at hs;omega) hT
def MI(k i:Int)(s:ByteArray)(nl nd:Nat):Bool:=
 (k==3||k==9||k==10||i==0)&&(k==4||k==7||k==8||decide (s.size=0))&&(k==6||nl==0)&&(k==5||nd==0)
def MJ(k i:Int)(s:ByteArray):Bool:=
 if k=1∨k=2∨k=11∨k=3 then true else if k=9 then i==0||i==1 else if k=10 then decide (0≤i) else if k=4 then decide (s.size≤4096)&&Xa s else if k=7 then decide (s.size≤4096)
 else if k=8 then decide (s.size=12) else decide (k=6∨k=5)
mutual
def snd:Tr→Bool|.mk k i s l ns ds=>MI k i s l.length ds.length&&MJ k i s&&al1 l&&al2 [] ns ds
def al1:List Tr→Bool|[]=>true|t::r=>snd t&&al1 r
def al2:List ByteArray→List ByteArray→List Tr→Bool
 |_,_,[]=>true
 |_,[],_::_=>false
 |seen,n::nr,t::r=>nameB n&&!abC seen n&&snd t&&al2 (n::seen) nr r
end
end Go.Proofs.YtpdlghcgekojlaaGreatDoor
