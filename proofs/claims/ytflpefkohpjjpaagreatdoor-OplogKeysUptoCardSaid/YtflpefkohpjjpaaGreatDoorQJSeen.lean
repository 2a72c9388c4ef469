/- A map[string]bool that a call makes: the names that it has seen. -/
import Derived.Test.YtflpefkohpjjpaaGreatDoorQJ1
import Derived.Maps.Own
import Derived.Maps.Views
set_option linter.unusedSimpArgs false
set_option linter.unusedVariables false
namespace Go.Proofs.YtflpefkohpjjpaaGreatDoor
open Go.RowKit Go.Maps
def seenD:List ByteArray→DataW Unit
 |[]=>.map []
 |n::r=>(seenD r).put (.string n.data.toList) (.lit (.bool true))
def aoC(l:List ByteArray)(s:ByteArray):Bool:=l.any fun n=>decide (n.data.toList=s.data.toList)
def Seen(w:World)(B n:Nat)(l:List ByteArray):Prop:=w.ownsMap Tryz.prog 9 (plainElem Tryz.prog 4) B n (seenD l)
theorem abm:Keyed Tryz.prog 9:=string_keyed Tryz.underlying9
theorem Seen.put{w:World}{B n:Nat}{l:List ByteArray}(h:Seen w B n l)(s:ByteArray)(hs:s.size≤maxLen)(hn:n<maxLen):
 ∃w',(Instr.mapUpdate 287 (.map (some B)) (.string s) (.bool true)).run Tryz.prog w=.ok () w'∧Seen w' B (n+1) (s::l)∧w.grownBy w' (some B):=
 World.ownsMap.update (t:=287) (e:=4) h abm Tryz.underlying287 hn (WideMaps.keyOf_string_mk Tryz.underlying9 hs) (plainElem_bool Tryz.underlying4 true)
theorem Seen.kept{w w':World}{B n:Nat}{l:List ByteArray}(h:Seen w B n l)(he:Ext w w'):Seen w' B n l:=World.ownsMap.kept h (he.only none) (by simp)
end Go.Proofs.YtflpefkohpjjpaaGreatDoor
