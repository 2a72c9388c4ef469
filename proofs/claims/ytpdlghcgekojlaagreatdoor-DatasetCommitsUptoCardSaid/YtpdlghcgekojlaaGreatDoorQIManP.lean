/- Contracts of the library's string functions, in the form that the printed ones have. -/
import Derived.Test.YtpdlghcgekojlaaGreatDoorQI5
import Derived.Test.YtpdlghcgekojlaaGreatDoorQIUtfP
import Derived.Laws.Externs
set_option linter.unusedSimpArgs false
set_option linter.unusedVariables false
namespace Go.Proofs.YtpdlghcgekojlaaGreatDoor
open Go.RowKit
noncomputable def alo(s:ByteArray):Option Bool:=some (Wp s)
theorem afQ(s:ByteArray)(r:Bool)(h:alo s=some r):Fn Tryz.prog GI 215 [.lf (.str s)] (.lf (.bool r)):=by
 injection h with h;subst h
 refine Fn.of (by kernel_rfl) fun I w vs hG hi hvs=>?_
 obtain⟨v,q,rfl,h1,h2⟩:=VRs.mP hvs
 obtain rfl:=VRs.xk h2
 obtain⟨rfl,hs⟩:=(VR.lf.1 h1).str
 refine(Ew s w hs (hG w hi)).mono ?_
 rintro e w' ⟨rfl,he⟩
 exact⟨I,_,rfl,Gr.uF hi he,VR.lf.2 (by unfold LRp;rfl)⟩
def Hr:List UInt8→List UInt8→Int:=Lib.compareBytes
set_option maxRecDepth 20000 in
set_option maxHeartbeats 4000000 in
theorem afR(a b:ByteArray)(w:World):Calls Tryz.prog 208 #[.string a,.string b] w fun e w'=>e=.returned (.int .i64 (Hr a.data.toList b.data.toList))∧w=w':=by
 go_enter Tryz.func208,Tryz.ntmps208
 go_wp2_with fail
 rw[run_callFunc_extern Tryz.func245 (by kernel_rfl) (by kernel_rfl) (by kernel_rfl) (e:=Extern.BytealgCompare.compare) (by kernel_rfl),Lib.run_compareString]
 simp only[Result.andThen]
 rw[Oper.upon_value]
 go_wp2_with fail
 go_ret
 exact⟨rfl,rfl⟩
set_option maxRecDepth 20000 in
set_option maxHeartbeats 4000000 in
theorem afS(a b:ByteArray)(w:World):Calls Tryz.prog 152 #[.string a,.string b] w fun e w'=>e=.returned (.int .i64 (Hr a.data.toList b.data.toList))∧w=w':=by
 go_enter Tryz.func152,Tryz.ntmps152
 go_wp2_with fail
 refine(afR _ _ _).mono ?_
 rintro e w3 ⟨rfl,rfl⟩
 go_wp2_with fail
 go_ret
 exact⟨rfl,rfl⟩
def yC(a b:ByteArray):Int:=Hr a.data.toList b.data.toList
theorem afT(a b:ByteArray):(Lit.int .i64 (yC a b)).wf=true:=by
 have h:yC a b = -1∨yC a b=0∨yC a b=1:=by
  unfold yC Hr
  generalize a.data.toList=x
  generalize b.data.toList=y
  induction x generalizing y with
  |nil=>cases y<;>simp[Lib.compareBytes]
  |cons p r ih=>
   cases y with
   |nil=>simp[Lib.compareBytes]
   |cons q s=>
    simp only[Lib.compareBytes]
    have:=ih s
    split<;>(try split)<;>simp_all
 rcases h with h|h|h<;>rw[h]<;>rfl
noncomputable def aje(a b:ByteArray):Option Int:=some (yC a b)
theorem Wu(a b:ByteArray)(r:Int)(h:aje a b=some r):Fn Tryz.prog GI 152 [.lf (.str a),.lf (.str b)] (.lf (.int .i64 r)):=by
 injection h with h;subst h
 refine Fn.of (by kernel_rfl) fun I w vs hG hi hvs=>?_
 obtain⟨v,q,rfl,h1,h2⟩:=VRs.mP hvs
 obtain⟨v',q,rfl,h3,h4⟩:=VRs.mP h2
 obtain rfl:=VRs.xk h4
 obtain⟨rfl,_⟩:=(VR.lf.1 h1).str
 obtain⟨rfl,_⟩:=(VR.lf.1 h3).str
 refine(afS a b w).mono ?_
 rintro e w' ⟨rfl,rfl⟩
 exact⟨I,_,rfl,Gr.uF hi (Ext.refl w),VR.lf.2 (by unfold LRp;exact⟨rfl,afT a b⟩)⟩
def numsOf(s:ByteArray):List Int:=s.data.toList.map fun b=>(b.toNat:Int)
theorem qQ(s:ByteArray):(numsOf s).map (lfK .u8)=Bc s:=by
 unfold numsOf Bc
 rw[List.map_map];rfl
theorem oZ(s:ByteArray):(numsOf s).length=s.size:=by
 unfold numsOf
 rw[List.length_map,Array.length_toList];rfl
end Go.Proofs.YtpdlghcgekojlaaGreatDoor
