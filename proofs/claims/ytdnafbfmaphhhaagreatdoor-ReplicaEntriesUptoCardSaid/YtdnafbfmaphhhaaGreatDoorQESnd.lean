/- sound: plain. And utf8.ValidString at this program. -/
import Derived.Test.YtdnafbfmaphhhaaGreatDoorQETrN
import Derived.Test.YtdnafbfmaphhhaaGreatDoorQEName
import Derived.Test.YtdnafbfmaphhhaaGreatDoorQESeen
import Derived.Test.YtdnafbfmaphhhaaGreatDoorLay
set_option linter.unusedSimpArgs false
set_option linter.unusedVariables false
namespace Go.Proofs.YtdnafbfmaphhhaaGreatDoor
open Go.RowKit Go.Shelf Go.Lib
/-- The tables of utf8 are laid. -/
def Tabs (w:World) : Prop := Lib.Utf8Tabs (Tryz.laysValid_ren.g 3) (Tryz.laysValid_ren.g 4) w
theorem Tabs.ext {w w':World} (h:Tabs w) (he:Ext w w') : Tabs w' := Utf8Tabs_below h he.below
def akj (s:ByteArray) : Bool := Lib.validD s.data.toList
/-- what sound asks of a value's own cells -/
def ah5 (k i:Int) (s:ByteArray) (nl nd:Nat) : Bool :=
  (k == 3 || k == 9 || k == 10 || i == 0) && (k == 4 || k == 7 || k == 8 || decide (s.size = 0)) && (k == 6 || nl == 0) && (k == 5 || nd == 0)
def ah6 (k i:Int) (s:ByteArray) : Bool :=
  if k = 1 ∨ k = 2 ∨ k = 11 ∨ k = 3 then true else if k = 9 then i == 0 || i == 1 else if k = 10 then decide (0 ≤ i) else if k = 4 then decide (s.size ≤ 4096) && akj s else if k = 7 then decide (s.size ≤ 4096)
  else if k = 8 then decide (s.size = 12) else decide (k = 6 ∨ k = 5)
mutual
def snd:Tr → Bool | .mk k i s l ns ds=>ah5 k i s l.length ds.length && ah6 k i s && akk l && akl [] ns ds
def akk:List Tr → Bool | []=>true | t :: r=>snd t && akk r
def akl:List ByteArray → List ByteArray → List Tr → Bool
  | _,_,[]=>true
  | _,[],_ :: _=>false
  | seen,n :: nr,t :: r=>nameB n && !alz seen n && snd t && akl (n :: seen) nr r
end
end Go.Proofs.YtdnafbfmaphhhaaGreatDoor
