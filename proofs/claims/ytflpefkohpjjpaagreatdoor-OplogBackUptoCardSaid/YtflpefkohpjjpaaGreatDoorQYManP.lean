/- Contracts of the library's string functions, in the form that the printed ones have. -/
import Derived.Test.YtflpefkohpjjpaaGreatDoorQY4
import Derived.Test.YtflpefkohpjjpaaGreatDoorQYUtfP
import Derived.Laws.Externs
set_option linter.unusedSimpArgs false
set_option linter.unusedVariables false
namespace Go.Proofs.YtflpefkohpjjpaaGreatDoor
open Go.RowKit
noncomputable def agq(s:ByteArray):Option Bool:=some (Qk s)
theorem WR(s:ByteArray)(r:Bool)(h:agq s=some r):Fn Tryz.prog GI 276 [.lf (.str s)] (.lf (.bool r)):=by
 injection h with h;subst h
 refine Fn.of (by kernel_rfl) fun I w vs hG hi hvs=>?_
 obtain⟨v,q,rfl,h1,h2⟩:=VRs.DN hvs
 obtain rfl:=VRs.abA h2
 obtain⟨rfl,hs⟩:=(VR.lf.1 h1).str
 refine(Fv s w hs (hG w hi)).mono ?_
 rintro e w' ⟨rfl,he⟩
 exact⟨I,_,rfl,Gr.BA hi he,VR.lf.2 (by unfold LRp;rfl)⟩
def agr:List UInt8→List UInt8→Int:=Lib.compareBytes
set_option maxRecDepth 20000 in
set_option maxHeartbeats 4000000 in
theorem ags(a b:ByteArray)(w:World):Calls Tryz.prog 330 #[.string a,.string b] w fun e w'=>e=.returned (.int .i64 (agr a.data.toList b.data.toList))∧w=w':=by
 go_enter Tryz.func330,Tryz.ntmps330
 go_wp2_with fail
 rw[run_callFunc_extern Tryz.func338 (by kernel_rfl) (by kernel_rfl) (by kernel_rfl) (e:=Extern.BytealgCompare.compare) (by kernel_rfl),Lib.run_compareString]
 simp only[Result.andThen]
 rw[Oper.upon_value]
 go_wp2_with fail
 go_ret
 exact⟨rfl,rfl⟩
set_option maxRecDepth 20000 in
set_option maxHeartbeats 4000000 in
theorem agt(a b:ByteArray)(w:World):Calls Tryz.prog 299 #[.string a,.string b] w fun e w'=>e=.returned (.int .i64 (agr a.data.toList b.data.toList))∧w=w':=by
 go_enter Tryz.func299,Tryz.ntmps299
 go_wp2_with fail
 refine(ags _ _ _).mono ?_
 rintro e w3 ⟨rfl,rfl⟩
 go_wp2_with fail
 go_ret
 exact⟨rfl,rfl⟩
def UA(a b:ByteArray):Int:=agr a.data.toList b.data.toList
theorem agu(a b:ByteArray):(Lit.int .i64 (UA a b)).wf=true:=by
 have h:UA a b = -1∨UA a b=0∨UA a b=1:=by
  unfold UA agr
  generalize a.data.toList=x
  generalize b.data.toList=y
  induction x generalizing y with
  |nil=>cases y<;>simp[Lib.compareBytes]
  |cons p r ih=>
   cases y with
   |nil=>simp[Lib.compareBytes]
   |cons q s=>
    simp only[Lib.compareBytes]
    have:=ih s
    split<;>(try split)<;>simp_all
 rcases h with h|h|h<;>rw[h]<;>rfl
noncomputable def aks(a b:ByteArray):Option Int:=some (UA a b)
theorem WS(a b:ByteArray)(r:Int)(h:aks a b=some r):Fn Tryz.prog GI 299 [.lf (.str a),.lf (.str b)] (.lf (.int .i64 r)):=by
 injection h with h;subst h
 refine Fn.of (by kernel_rfl) fun I w vs hG hi hvs=>?_
 obtain⟨v,q,rfl,h1,h2⟩:=VRs.DN hvs
 obtain⟨v',q,rfl,h3,h4⟩:=VRs.DN h2
 obtain rfl:=VRs.abA h4
 obtain⟨rfl,_⟩:=(VR.lf.1 h1).str
 obtain⟨rfl,_⟩:=(VR.lf.1 h3).str
 refine(agt a b w).mono ?_
 rintro e w' ⟨rfl,rfl⟩
 exact⟨I,_,rfl,Gr.BA hi (Ext.refl w),VR.lf.2 (by unfold LRp;exact⟨rfl,agu a b⟩)⟩
def numsOf(s:ByteArray):List Int:=s.data.toList.map fun b=>(b.toNat:Int)
theorem gG(s:ByteArray):(numsOf s).map (lfK .u8)=tZ s:=by
 unfold numsOf tZ
 rw[List.map_map];rfl
theorem eu(s:ByteArray):(numsOf s).length=s.size:=by
 unfold numsOf
 rw[List.length_map,Array.length_toList];rfl
end Go.Proofs.YtflpefkohpjjpaaGreatDoor
