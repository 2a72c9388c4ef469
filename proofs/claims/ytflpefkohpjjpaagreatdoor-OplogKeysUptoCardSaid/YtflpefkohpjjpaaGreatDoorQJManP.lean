/- Contracts of the library's string functions, in the form that the printed ones have. -/
import Derived.Test.YtflpefkohpjjpaaGreatDoorQJ4
import Derived.Test.YtflpefkohpjjpaaGreatDoorQJUtfP
import Derived.Laws.Externs
set_option linter.unusedSimpArgs false
set_option linter.unusedVariables false
namespace Go.Proofs.YtflpefkohpjjpaaGreatDoor
open Go.RowKit
noncomputable def akt(s:ByteArray):Option Bool:=some (mX s)
theorem UO(s:ByteArray)(r:Bool)(h:akt s=some r):Fn Tryz.prog GI 276 [.lf (.str s)] (.lf (.bool r)):=by
 injection h with h;subst h
 refine Fn.of (by kernel_rfl) fun I w vs hG hi hvs=>?_
 obtain⟨v,q,rfl,h1,h2⟩:=VRs.F7 hvs
 obtain rfl:=VRs.agH h2
 obtain⟨rfl,hs⟩:=(VR.lf.1 h1).str
 refine(BP s w hs (hG w hi)).mono ?_
 rintro e w' ⟨rfl,he⟩
 exact⟨I,_,rfl,Gr.Bd hi he,VR.lf.2 (by unfold LRp;rfl)⟩
def numsOf(s:ByteArray):List Int:=s.data.toList.map fun b=>(b.toNat:Int)
theorem eF(s:ByteArray):(numsOf s).map (lfK .u8)=oP s:=by
 unfold numsOf oP
 rw[List.map_map];rfl
theorem kT(s:ByteArray):(numsOf s).length=s.size:=by
 unfold numsOf
 rw[List.length_map,Array.length_toList];rfl
end Go.Proofs.YtflpefkohpjjpaaGreatDoor
