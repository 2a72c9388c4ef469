/- Contracts of the library's string functions, in the form that the printed ones have. -/
import Derived.Test.YtpdlghcgekojlaaGreatDoorQG5
import Derived.Test.YtpdlghcgekojlaaGreatDoorQGUtfP
import Derived.Laws.Externs
set_option linter.unusedSimpArgs false
set_option linter.unusedVariables false
namespace Go.Proofs.YtpdlghcgekojlaaGreatDoor
open Go.RowKit
noncomputable def al5(s:ByteArray):Option Bool:=some (Xa s)
theorem agu(s:ByteArray)(r:Bool)(h:al5 s=some r):Fn Tryz.prog GI 215 [.lf (.str s)] (.lf (.bool r)):=by
 injection h with h;subst h
 refine Fn.of (by kernel_rfl) fun I w vs hG hi hvs=>?_
 obtain⟨v,q,rfl,h1,h2⟩:=VRs.l9 hvs
 obtain rfl:=VRs.wY h2
 obtain⟨rfl,hs⟩:=(VR.lf.1 h1).str
 refine(Eu s w hs (hG w hi)).mono ?_
 rintro e w' ⟨rfl,he⟩
 exact⟨I,_,rfl,Gr.uo hi he,VR.lf.2 (by unfold LRp;rfl)⟩
def agv:List UInt8→List UInt8→Int:=Lib.compareBytes
set_option maxRecDepth 20000 in
set_option maxHeartbeats 4000000 in
theorem agw(a b:ByteArray)(w:World):Calls Tryz.prog 208 #[.string a,.string b] w fun e w'=>e=.returned (.int .i64 (agv a.data.toList b.data.toList))∧w=w':=by
 go_enter Tryz.func208,Tryz.ntmps208
 go_wp2_with fail
 rw[run_callFunc_extern Tryz.func245 (by kernel_rfl) (by kernel_rfl) (by kernel_rfl) (e:=Extern.BytealgCompare.compare) (by kernel_rfl),Lib.run_compareString]
 simp only[Result.andThen]
 rw[Oper.upon_value]
 go_wp2_with fail
 go_ret
 exact⟨rfl,rfl⟩
set_option maxRecDepth 20000 in
set_option maxHeartbeats 4000000 in
theorem agx(a b:ByteArray)(w:World):Calls Tryz.prog 152 #[.string a,.string b] w fun e w'=>e=.returned (.int .i64 (agv a.data.toList b.data.toList))∧w=w':=by
 go_enter Tryz.func152,Tryz.ntmps152
 go_wp2_with fail
 refine(agw _ _ _).mono ?_
 rintro e w3 ⟨rfl,rfl⟩
 go_wp2_with fail
 go_ret
 exact⟨rfl,rfl⟩
def UO(a b:ByteArray):Int:=agv a.data.toList b.data.toList
theorem agy(a b:ByteArray):(Lit.int .i64 (UO a b)).wf=true:=by
 have h:UO a b = -1∨UO a b=0∨UO a b=1:=by
  unfold UO agv
  generalize a.data.toList=x
  generalize b.data.toList=y
  induction x generalizing y with
  |nil=>cases y<;>simp[Lib.compareBytes]
  |cons p r ih=>
   cases y with
   |nil=>simp[Lib.compareBytes]
   |cons q s=>
    simp only[Lib.compareBytes]
    have:=ih s
    split<;>(try split)<;>simp_all
 rcases h with h|h|h<;>rw[h]<;>rfl
noncomputable def ajR(a b:ByteArray):Option Int:=some (UO a b)
theorem Xd(a b:ByteArray)(r:Int)(h:ajR a b=some r):Fn Tryz.prog GI 152 [.lf (.str a),.lf (.str b)] (.lf (.int .i64 r)):=by
 injection h with h;subst h
 refine Fn.of (by kernel_rfl) fun I w vs hG hi hvs=>?_
 obtain⟨v,q,rfl,h1,h2⟩:=VRs.l9 hvs
 obtain⟨v',q,rfl,h3,h4⟩:=VRs.l9 h2
 obtain rfl:=VRs.wY h4
 obtain⟨rfl,_⟩:=(VR.lf.1 h1).str
 obtain⟨rfl,_⟩:=(VR.lf.1 h3).str
 refine(agx a b w).mono ?_
 rintro e w' ⟨rfl,rfl⟩
 exact⟨I,_,rfl,Gr.uo hi (Ext.refl w),VR.lf.2 (by unfold LRp;exact⟨rfl,agy a b⟩)⟩
def numsOf(s:ByteArray):List Int:=s.data.toList.map fun b=>(b.toNat:Int)
theorem qG(s:ByteArray):(numsOf s).map (lfK .u8)=Bh s:=by
 unfold numsOf Bh
 rw[List.map_map];rfl
theorem oL(s:ByteArray):(numsOf s).length=s.size:=by
 unfold numsOf
 rw[List.length_map,Array.length_toList];rfl
end Go.Proofs.YtpdlghcgekojlaaGreatDoor
