/- Contracts that were shown by hand, in the form that the printed ones have. -/
import Derived.Test.YtbdcaeahocbkbaaGreatDoorQAManR
import Derived.Test.YtbdcaeahocbkbaaGreatDoorQASnd
import Derived.Laws.Externs
set_option linter.unusedSimpArgs false
set_option linter.unusedVariables false
namespace Go.Proofs.YtbdcaeahocbkbaaGreatDoor
open Go.RowKit
theorem Fn.of{P:Program}{G:Gh→Prop}{f:FuncId}{args:List AV}{res:AV}(hc:rU P f=true)(h:∀I w vs,G I→Inv I w→VRs (Iz I) args vs→Calls P f vs.toArray w fun e w'=>∃I' v,e=.returned v∧Gr I I' w w'∧VR (Iz I') res v):Fn P G f args res:=⟨hc,h⟩
noncomputable def au7(s:ByteArray):Option Bool:=some (wQ s)
theorem anr(s:ByteArray)(r:Bool)(h:au7 s=some r):Fn Tryz.prog GI 228 [.lf (.str s)] (.lf (.bool r)):=by
 injection h with h;subst h
 refine Fn.of (by kernel_rfl) fun I w vs hG hi hvs=>?_
 obtain⟨v,q,rfl,h1,h2⟩:=VRs.aeR hvs
 obtain rfl:=VRs.arZ h2
 obtain⟨rfl,hs⟩:=(VR.lf.1 h1).str
 refine(JQ s w hs (hG w hi)).mono ?_
 rintro e w' ⟨rfl,he⟩
 exact⟨I,_,rfl,Gr.Fq hi he,VR.lf.2 (by unfold LRp;rfl)⟩
def abx:List UInt8→List UInt8→Int:=Lib.compareBytes
set_option maxRecDepth 20000 in
set_option maxHeartbeats 4000000 in
theorem ant(a b:ByteArray)(w:World):Calls Tryz.prog 275 #[.string a,.string b] w fun e w'=>e=.returned (.int .i64 (abx a.data.toList b.data.toList))∧w=w':=by
 go_enter Tryz.func275,Tryz.ntmps275
 go_wp2_with fail
 rw[run_callFunc_extern Tryz.func286 (by kernel_rfl) (by kernel_rfl) (by kernel_rfl) (e:=Extern.BytealgCompare.compare) (by kernel_rfl),Lib.run_compareString]
 simp only[Result.andThen]
 rw[Oper.upon_value]
 go_wp2_with fail
 go_ret
 exact⟨rfl,rfl⟩
set_option maxRecDepth 20000 in
set_option maxHeartbeats 4000000 in
theorem anu(a b:ByteArray)(w:World):Calls Tryz.prog 231 #[.string a,.string b] w fun e w'=>e=.returned (.int .i64 (abx a.data.toList b.data.toList))∧w=w':=by
 go_enter Tryz.func231,Tryz.ntmps231
 go_wp2_with fail
 refine(ant _ _ _).mono ?_
 rintro e w3 ⟨rfl,rfl⟩
 go_wp2_with fail
 go_ret
 exact⟨rfl,rfl⟩
def BX(a b:ByteArray):Int:=abx a.data.toList b.data.toList
theorem anv(a b:ByteArray):(Lit.int .i64 (BX a b)).wf=true:=by
 have h:BX a b = -1∨BX a b=0∨BX a b=1:=by
  unfold BX abx
  generalize a.data.toList=x
  generalize b.data.toList=y
  induction x generalizing y with
  |nil=>cases y<;>simp[Lib.compareBytes]
  |cons p r ih=>
   cases y with
   |nil=>simp[Lib.compareBytes]
   |cons q s=>
    simp only[Lib.compareBytes]
    have:=ih s
    split<;>(try split)<;>simp_all
 rcases h with h|h|h<;>rw[h]<;>rfl
noncomputable def ar1(a b:ByteArray):Option Int:=some (BX a b)
theorem aeS(a b:ByteArray)(r:Int)(h:ar1 a b=some r):Fn Tryz.prog GI 231 [.lf (.str a),.lf (.str b)] (.lf (.int .i64 r)):=by
 injection h with h;subst h
 refine Fn.of (by kernel_rfl) fun I w vs hG hi hvs=>?_
 obtain⟨v,q,rfl,h1,h2⟩:=VRs.aeR hvs
 obtain⟨v',q,rfl,h3,h4⟩:=VRs.aeR h2
 obtain rfl:=VRs.arZ h4
 obtain⟨rfl,_⟩:=(VR.lf.1 h1).str
 obtain⟨rfl,_⟩:=(VR.lf.1 h3).str
 refine(anu a b w).mono ?_
 rintro e w' ⟨rfl,rfl⟩
 exact⟨I,_,rfl,Gr.Fq hi (Ext.refl w),VR.lf.2 (by unfold LRp;exact⟨rfl,anv a b⟩)⟩
end Go.Proofs.YtbdcaeahocbkbaaGreatDoor
