/- codec.Read, Decode. -/
import Derived.Test.YtflpefkohpjjpaaGreatDoorQNRdRead
import Derived.Test.YtflpefkohpjjpaaGreatDoorQN4
import Derived.Laws.Externs
set_option linter.unusedSimpArgs false
set_option linter.unusedVariables false
namespace Go.Proofs.YtflpefkohpjjpaaGreatDoor
open Go.RowKit
theorem PL(s:ByteArray)(x:Int)(w:World)(hs:s.size≤1000000000000000)(hT:Tabs w):Calls Tryz.prog 144 #[.string s,.int .i64 x] w (sZ w (zS s x)):=by
 unfold zS
 by_cases h:x<0∨(s.size:Int)<x
 ·rw[if_pos h];exact JE s x w h hs
 ·rw[if_neg h]
  obtain⟨p,rfl⟩:=Int.eq_ofNat_of_zero_le (show 0≤x by omega)
  exact PK s p w (by omega) hs hT
end Go.Proofs.YtflpefkohpjjpaaGreatDoor
set_option linter.unusedSimpArgs false
set_option linter.unusedVariables false
namespace Go.Proofs.YtflpefkohpjjpaaGreatDoor
open Go.RowKit
noncomputable def Yw(s:ByteArray):Option Bool:=some (rY s)
theorem PN(s:ByteArray)(r:Bool)(h:Yw s=some r):Fn Tryz.prog GI 276 [.lf (.str s)] (.lf (.bool r)):=by
 injection h with h;subst h
 refine Fn.of (by kernel_rfl) fun I w vs hG hi hvs=>?_
 obtain⟨v,q,rfl,h1,h2⟩:=VRs.zG hvs
 obtain rfl:=VRs.O4 h2
 obtain⟨rfl,hs⟩:=(VR.lf.1 h1).str
 refine(jI s w hs (hG w hi)).mono ?_
 rintro e w' ⟨rfl,he⟩
 exact⟨I,_,rfl,Gr.qZ hi he,VR.lf.2 (by unfold LRp;rfl)⟩
def JF(s:ByteArray)(x:Int):aj×Int×Int:=((zS s x).1.gv,(zS s x).2.1,(zS s x).2.2)
def okI(n:Int):Bool:=decide (-9223372036854775808≤n)&&decide (n≤9223372036854775807)
theorem JG{n:Int}(h:okI n=true):(Lit.int .i64 n).wf=true:=by
 unfold okI at h
 rw[Bool.and_eq_true,decide_eq_true_iff,decide_eq_true_iff] at h
 exact BJ ⟨h.1,by omega⟩
noncomputable def UN(s:ByteArray)(x:Int):Option (aj×Int×Int):=bif Nat.ble s.size 1000000000000000&&(okI (JF s x).2.1&&okI (JF s x).2.2) then some (JF s x) else none
theorem Dx(s:ByteArray)(x:Int)(r:aj×Int×Int)(h:UN s x=some r):Fn Tryz.prog GI 144 [.lf (.str s),.lf (.int .i64 x)] (.tup [.dat (aj.lf1 r.1),.lf (.int .i64 r.2.1),.lf (.int .i64 r.2.2)]):=by
 unfold UN at h
 obtain⟨hg,h⟩:=(ES h).resolve_right (fun k=>by cases k.2)
 obtain⟨hg1,hg2⟩:=Bool.and_eq_true_iff.1 hg
 obtain⟨hg2,hg3⟩:=Bool.and_eq_true_iff.1 hg2
 injection h with h;subst h
 refine Fn.of (by kernel_rfl) fun I w vs hG hi hvs=>?_
 obtain⟨v,q,rfl,h1,h2⟩:=VRs.zG hvs
 obtain⟨v',q,rfl,h3,h4⟩:=VRs.zG h2
 obtain rfl:=VRs.O4 h4
 obtain⟨rfl,hs⟩:=(VR.lf.1 h1).str
 obtain⟨rfl,_⟩:=(VR.lf.1 h3).int
 refine(PL s x w (Nat.le_of_ble_eq_true hg1) (hG w hi)).mono ?_
 rintro e w' ⟨v,rfl,hv,he⟩
 obtain⟨cs,rfl,hc⟩:=hv.ghost
 refine⟨newG I w.heap.size w',_,rfl,O9 hi he,VR.tup.2 ⟨[.agg cs.toArray,.int .i64 _,.int .i64 _],rfl,VRs.cons (VR.dat.2 ⟨cs,rfl,?_⟩) (VRs.cons (VR.lf.2 ?_) (VRs.one (VR.lf.2 ?_)))⟩⟩
 ·rw[←aj.dw];exact hc
 ·unfold LRp;exact⟨rfl,JG hg2⟩
 ·unfold LRp;exact⟨rfl,JG hg3⟩
def numsOf(s:ByteArray):List Int:=s.data.toList.map fun b=>(b.toNat:Int)
theorem eX(s:ByteArray):(numsOf s).map (lfK .u8)=mO s:=by
 unfold numsOf mO
 rw[List.map_map];rfl
end Go.Proofs.YtflpefkohpjjpaaGreatDoor
