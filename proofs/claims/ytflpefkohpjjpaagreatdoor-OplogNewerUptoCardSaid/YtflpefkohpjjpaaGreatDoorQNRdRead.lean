/- codec.Read's deferred closure, Read, Decode. -/
import Derived.Test.YtflpefkohpjjpaaGreatDoorQNRdVal3
import Derived.Defers
import Derived.Recover
import Derived.Outline
set_option linter.unusedSimpArgs false
set_option linter.unusedVariables false
namespace Go.Proofs.YtflpefkohpjjpaaGreatDoor
open Go.RowKit
theorem zO(a b c x:Value):#[a,b,c]++((Array.replicate 17 undef).setIfInBounds 3 x).setIfInBounds 0 x=#[a,b,c,x,undef,undef,x,undef,undef,undef,undef,undef,undef,undef,undef,undef,undef,undef,undef,undef]:=by kernel_rfl
def Dv(R:World→Prop):Exit→Act→World→Prop
 |.normal,a,w|.ret,a,w=>a.defers=[]∧R w
 |_,_,_=>False
set_option maxRecDepth 20000 in
set_option maxHeartbeats 1000000 in
theorem JD(pv pn pe:Addr)(w:World):
 CallsD Tryz.prog 222 #[.pointer (some pv),.pointer (some pn),.pointer (some pe)] .returning w fun e u' w'=>e=.returned (.tuple #[])∧u'=.returning∧w=w':=by
 refine callsD_of_wpS Tryz.func222 rfl fun c₀ cs hu=>?_
 apply wpS_seq
 apply wpS_region
 simp[wpOpsS,go_sem,recoverD,hu,Tryz.ntmps222,Exit.thenS]
 refine wpS_of_wp (Code.wp_mono (Q:=Dv (fun w'=>w=w')) ?himp ?_)
 case himp=>
  intro e a w' h
  cases e<;>first|exact h.elim|(obtain⟨h1,rfl⟩:=h;exact⟨h1,_,rfl,_,results_none rfl _ _ _,rfl,by first|rfl|exact hu,rfl⟩)
 rw[zO]
 go_wp2_with fail
 exact⟨rfl,rfl⟩
theorem qY(W:World)(g:Nat)(hg:W.heap.size=g)(o:Obj):(W.alloc o).heap[g]?=some o:=by subst hg;exact dF W o
theorem sV{w:World}{g:Nat}{t:TypeId}{c0 c1 c2 c3 c4:Value}(h:w.heap[g]?=some (.cells #[c0,c1,c2,c3,c4] t (0,0)))(a0 a1 a2 a3 a4:Value):
 (((((w.setCell ⟨g,0,none⟩ a0).setCell ⟨g,1,none⟩ a1).setCell ⟨g,2,none⟩ a2).setCell ⟨g,3,none⟩ a3).setCell ⟨g,4,none⟩ a4).heap[g]?=some (.cells #[a0,a1,a2,a3,a4] t (0,0)):=
 gB (gB (gB (gB (gB h 0 a0) 1 a1) 2 a2) 3 a3) 4 a4
def Caught(a:World)(pv pn pe:Nat)(c:Int)(w':World):Prop:=
 w'.heap[pv]?=some (.cells #[.int .i64 0,.int .i64 0,.string ⟨#[]⟩,.slice none 0 0,.slice none 0 0] 25 (0,0))∧w'.heap[pn]?=some (.cells #[.int .i64 0] 3 (0,0))∧w'.heap[pe]?=some (.cells #[.int .i64 c] 53 (0,0))∧Ext a w'
set_option maxRecDepth 20000 in
set_option maxHeartbeats 2000000 in
theorem Fa(a:World)(pv pn pe:Nat)(c n0 e0:Int)(c0 c1 c2 c3 c4:Value)(older:List PanicEntry)(w:World)(hE:Ext a w)(h1:a.heap.size≤pv)(h2:a.heap.size≤pn)(h3:a.heap.size≤pe)(n12:pv≠pn)(n13:pv≠pe)(n23:pn≠pe)
 (hv:w.heap[pv]?=some (.cells #[c0,c1,c2,c3,c4] 25 (0,0))) (hn:w.heap[pn]?=some (.cells #[.int .i64 n0] 3 (0,0))) (he:w.heap[pe]?=some (.cells #[.int .i64 e0] 53 (0,0))):
 CallsD Tryz.prog 222 #[.pointer (some ⟨pv,0,none⟩),.pointer (some ⟨pn,0,none⟩),.pointer (some ⟨pe,0,none⟩)] (.panicking ({ v:=.iface 237 (.agg #[.int .i64 c]),recovered:=false }::older)) w fun e u' w'=>e=.returned (.tuple #[])∧u'=.panicking ({ v:=.iface 237 (.agg #[.int .i64 c]),recovered:=true }::older)∧Caught a pv pn pe c w':=by
 refine callsD_of_wpS Tryz.func222 rfl fun f₀ cs hu=>?_
 apply wpS_seq
 apply wpS_region
 simp[wpOpsS,go_sem,recoverD,hu,Tryz.ntmps222,Exit.thenS]
 refine wpS_of_wp (Code.wp_mono (Q:=Dv (Caught a pv pn pe c)) ?himp ?_)
 case himp=>
  intro e a w' h
  cases e<;>first|exact h.elim|(obtain⟨h1,h2⟩:=h;exact⟨h1,_,rfl,_,results_none rfl _ _ _,rfl,rfl,h2⟩)
 rw[zO]
 have hta:∀(c:Int) (w:World),(Instr.typeAssert (.iface 237 (.agg #[.int .i64 c])) 20 237 true).run Tryz.prog w=.ok (.tuple #[.agg #[.int .i64 c],.bool true]) w:=fun _ _=>by kernel_rfl
 have lv:=dI hv
 have ln:=dI hn
 have le:=dI he
 have cv:=aN hv
 have cn:=aN hn
 have ce:=aN he
 have fv:=aX hv
 have fn:=aX hn
 have fe:=aX he
 have HV:=Lib.hid hv
 have HN:=Lib.hid hn
 have HE:=Lib.hid he
 clear hv hn he
 go_wp2_with fail
 refine jd (fun W=>W.heap[w.heap.size]?=some (.cells #[.int .i64 c] 237 (0,0))) [(true,0),(true,1),(true,2),(false,3),(false,4),(false,5)] (by kernel_rfl) (by kernel_rfl) (by kernel_rfl) (by kernel_rfl) ?hS ?_
 case hS=>exact dF w _
 repeat (first|(refine kM (v:=?_) rfl rfl ?_ ?_;rotate_left;(· intro wq hSq;have cq:=aN hSq;go_simp;try (with_reducible rfl));simp only[Act.put,List.setIfInBounds_toArray,List.set_cons_zero,List.set_cons_succ,List.getElem_toArray,List.getElem_cons_zero,List.getElem_cons_succ])|(refine kN rfl rfl ?_;simp only[Act.put,List.setIfInBounds_toArray,List.set_cons_zero,List.set_cons_succ,List.getElem_toArray,List.getElem_cons_zero,List.getElem_cons_succ]))
 clear hta cn ce fn fe
 refine jC rfl rfl (fun K hK=>?_)
 go_simp
 obtain⟨W5,hW5⟩:∃W,((((w.setCell ⟨pv,0,none⟩ (.int .i64 0)).setCell ⟨pv,1,none⟩ (.int .i64 0)).setCell ⟨pv,2,none⟩ (.string ⟨#[]⟩)).setCell ⟨pv,3,none⟩ (.slice none 0 0)).setCell ⟨pv,4,none⟩ (.slice none 0 0)=W:=⟨_,rfl⟩
 have HV5:Hid (W5.heap[pv]?=some (.cells #[.int .i64 0,.int .i64 0,.string ⟨#[]⟩,.slice none 0 0,.slice none 0 0] 25 (0,0))):=by rw[←hW5];exact sV HV.out _ _ _ _ _
 have HN5:Hid (W5.heap[pn]?=some (.cells #[.int .i64 n0] 3 (0,0))):=by
  rw[←hW5];exact dB (dB (dB (dB (dB HN.out (p:=⟨pv,0,none⟩) n12.symm _) (p:=⟨pv,1,none⟩) n12.symm _) (p:=⟨pv,2,none⟩) n12.symm _) (p:=⟨pv,3,none⟩) n12.symm _) (p:=⟨pv,4,none⟩) n12.symm _
 have HE5:Hid (W5.heap[pe]?=some (.cells #[.int .i64 e0] 53 (0,0))):=by
  rw[←hW5];exact dB (dB (dB (dB (dB HE.out (p:=⟨pv,0,none⟩) n13.symm _) (p:=⟨pv,1,none⟩) n13.symm _) (p:=⟨pv,2,none⟩) n13.symm _) (p:=⟨pv,3,none⟩) n13.symm _) (p:=⟨pv,4,none⟩) n13.symm _
 have HX5:Hid (Ext a W5):=by
  rw[←hW5];exact((((hE.setCell (p:=⟨pv,0,none⟩) h1 _).setCell (p:=⟨pv,1,none⟩) h1 _).setCell (p:=⟨pv,2,none⟩) h1 _).setCell (p:=⟨pv,3,none⟩) h1 _).setCell (p:=⟨pv,4,none⟩) h1 _
 have hs5:W5.heap.size=w.heap.size:=by rw[←hW5];simp[World.setCell]
 rw[hW5]
 clear hW5 HV HN HE cv fv
 have HS5:=Lib.hid hs5
 clear hs5
 refine hK _ _ (qY W5 _ HS5.out _) ?_
 clear hK K
 have cn:=aN HN5.out
 have fn:=aX HN5.out
 have ln5:=dI HN5.out
 refine jC rfl rfl (fun K hK=>?_)
 go_simp
 obtain⟨W6,hW6⟩:∃W,W5.setCell ⟨pn,0,none⟩ (.int .i64 0)=W:=⟨_,rfl⟩
 have HV6:Hid (W6.heap[pv]?=some (.cells #[.int .i64 0,.int .i64 0,.string ⟨#[]⟩,.slice none 0 0,.slice none 0 0] 25 (0,0))):=by rw[←hW6];exact dB HV5.out (p:=⟨pn,0,none⟩) n12 _
 have HN6:Hid (W6.heap[pn]?=some (.cells #[.int .i64 0] 3 (0,0))):=by rw[←hW6];exact gB HN5.out 0 _
 have HE6:Hid (W6.heap[pe]?=some (.cells #[.int .i64 e0] 53 (0,0))):=by rw[←hW6];exact dB HE5.out (p:=⟨pn,0,none⟩) n23.symm _
 have HX6:Hid (Ext a W6):=by rw[←hW6];exact HX5.out.setCell (p:=⟨pn,0,none⟩) h2 _
 have hs6:W6.heap.size=w.heap.size:=by rw[←hW6];simp[World.setCell];exact HS5.out
 rw[hW6]
 have HS6:=Lib.hid hs6
 clear hs6 hW6 cn fn ln5
 refine hK _ _ (qY W6 _ HS6.out _) ?_
 clear hK K
 have ce:=aN HE6.out
 have fe:=aX HE6.out
 have le6:=dI HE6.out
 refine jC rfl rfl (fun K hK=>?_)
 go_simp
 refine hK _ _ (qY (W6.setCell ⟨pe,0,none⟩ (.int .i64 c)) _ (by rw[size_setCell];exact HS6.out) _) ?_
 clear hK K
 refine l9 ?_
 clear ce fe
 go_wp2_with fail
 refine⟨rfl,?_,?_,?_,?_⟩
 ·exact aS (dB HV6.out (p:=⟨pe,0,none⟩) n13 _) _
 ·exact aS (dB HN6.out (p:=⟨pe,0,none⟩) n23 _) _
 ·exact aS (gB HE6.out 0 _) _
 ·exact((HX6.out.setCell (p:=⟨pe,0,none⟩) h3 _).alloc _).drew
def Dw:Tr:=.mk 0 0 ⟨#[]⟩ [] [] []
def zeroV:Value:=.agg #[.int .i64 0,.int .i64 0,.string ⟨#[]⟩,.slice none 0 0,.slice none 0 0]
def zQ:Except Int (Tr×Nat×Nat)→Tr×Int×Int
 |.error c=>(Dw,0,c)
 |.ok (t,q,_)=>(t,q,0)
def zS(s:ByteArray)(x:Int):Tr×Int×Int:=if x<0∨(s.size:Int)<x then(Dw,0,1) else zQ (rdT s 16 x.toNat 0)
def sZ(w:World)(r:Tr×Int×Int)(e:Ending)(w':World):Prop:=∃v,e=.returned (.tuple #[v,.int .i64 r.2.1,.int .i64 r.2.2])∧iC w.heap.size w'.heap.size w' r.1 v∧Ext w w'
theorem pO(lo hi:Nat)(w:World):iC lo hi w Dw zeroV:=iC.leaf lo hi w 0 0 ⟨#[]⟩ (by unfold I64;omega) (by unfold I64;omega) (by unfold maxLen;decide)
set_option maxRecDepth 20000 in
set_option maxHeartbeats 2000000 in
theorem JE(s:ByteArray)(x:Int)(w:World)(h:x<0∨(s.size:Int)<x)(hs:s.size≤1000000000000000):Calls Tryz.prog 144 #[.string s,.int .i64 x] w (sZ w (Dw,0,1)):=by
 by_cases h0:x<0
 ·have d0:decide (x<0)=true:=by simpa using h0
  clear h
  go_enter_defers Tryz.func144,Tryz.ntmps144
  go_wp2_with fail
  exact⟨.tuple #[zeroV,.int .i64 0,.int .i64 1],by simp only[results,Tryz.results144,zeroV];go_simp,⟨_,rfl,pO _ _ _,by repeat (first|with_reducible assumption|with_reducible exact Ext.refl _|with_reducible refine Ext.drew ?_|with_reducible refine Ext.alloc ?_ _|((with_reducible refine Ext.setCell ?_ ?_ _);rotate_left;(· first|exact Nat.le_refl _|(simp;done)|omega|(simp;omega))))⟩⟩
 ·have d0:decide (x<0)=false:=by simpa using h0
  have d1:decide ((s.size:Int)<x)=true:=by simp;omega
  clear h
  go_enter_defers Tryz.func144,Tryz.ntmps144
  go_wp2_with fail
  exact⟨.tuple #[zeroV,.int .i64 0,.int .i64 1],by simp only[results,Tryz.results144,zeroV];go_simp,⟨_,rfl,pO _ _ _,by repeat (first|with_reducible assumption|with_reducible exact Ext.refl _|with_reducible refine Ext.drew ?_|with_reducible refine Ext.alloc ?_ _|((with_reducible refine Ext.setCell ?_ ?_ _);rotate_left;(· first|exact Nat.le_refl _|(simp;done)|omega|(simp;omega))))⟩⟩
set_option maxRecDepth 20000 in
set_option maxHeartbeats 2000000 in
theorem PK(s:ByteArray)(p:Nat)(w:World)(hp:p≤s.size)(hs:s.size≤1000000000000000)(hT:Tabs w):Calls Tryz.prog 144 #[.string s,.int .i64 (p:Int)] w (sZ w (zQ (rdT s 16 p 0))):=by
 have d0:decide ((p:Int)<0)=false:=by simp
 have d1:decide (s.size<p)=false:=by simp;omega
 have hmf:∀fn (first cap:Array Value) (w:World),(Instr.makeFunc fn first cap).run Tryz.prog w=.ok (.func fn first cap) w:=fun _ _ _ _=>rfl
 have HT:=Lib.hid hT
 clear hT
 obtain⟨x,hx⟩:∃x,rdT s 16 p 0=x:=⟨_,rfl⟩
 obtain⟨r,hr⟩:∃r,zQ x=r:=⟨_,rfl⟩
 rw[hx,hr]
 have HX:=Lib.hid hx
 have HR:=Lib.hid hr
 clear hx hr
 go_enter_defers Tryz.func144,Tryz.ntmps144
 go_wp2_with fail
 refine(val_ok s w hs HT.out 16 (by omega) (w.heap.size+1+1+1) p 0 1 _ (by omega) hp (by omega) (by repeat (first|with_reducible assumption|with_reducible exact Ext.refl _|with_reducible refine Ext.drew ?_|with_reducible refine Ext.alloc ?_ _|((with_reducible refine Ext.setCell ?_ ?_ _);rotate_left;(· first|exact Nat.le_refl _|(simp;done)|omega|(simp;omega))))) (by omega) (qY _ _ (by simp) _)).mono ?_
 rw[HX.out]
 have HV0:Hid (((((w.alloc (.cells #[.int .i64 0,.int .i64 0,.string ⟨#[]⟩,.slice none 0 0,.slice none 0 0] 25)).alloc (.cells #[.int .i64 0] 3)).alloc (.cells #[.int .i64 0] 53)).alloc (.cells #[.string s,.int .i64 (p:Int),.int .i64 0] 240)).heap[w.heap.size]?=some (.cells #[.int .i64 0,.int .i64 0,.string ⟨#[]⟩,.slice none 0 0,.slice none 0 0] 25 (0,0))):=aS (aS (aS (dF w _) _) _) _
 have HN0:Hid (((((w.alloc (.cells #[.int .i64 0,.int .i64 0,.string ⟨#[]⟩,.slice none 0 0,.slice none 0 0] 25)).alloc (.cells #[.int .i64 0] 3)).alloc (.cells #[.int .i64 0] 53)).alloc (.cells #[.string s,.int .i64 (p:Int),.int .i64 0] 240)).heap[w.heap.size+1]?=some (.cells #[.int .i64 0] 3 (0,0))):=aS (aS (Pq w _ _) _) _
 have HE0:Hid (((((w.alloc (.cells #[.int .i64 0,.int .i64 0,.string ⟨#[]⟩,.slice none 0 0,.slice none 0 0] 25)).alloc (.cells #[.int .i64 0] 3)).alloc (.cells #[.int .i64 0] 53)).alloc (.cells #[.string s,.int .i64 (p:Int),.int .i64 0] 240)).heap[w.heap.size+1+1]?=some (.cells #[.int .i64 0] 53 (0,0))):=aS (Pv w _ _ _) _
 have HX0:Hid (Ext w ((((w.alloc (.cells #[.int .i64 0,.int .i64 0,.string ⟨#[]⟩,.slice none 0 0,.slice none 0 0] 25)).alloc (.cells #[.int .i64 0] 3)).alloc (.cells #[.int .i64 0] 53)).alloc (.cells #[.string s,.int .i64 (p:Int),.int .i64 0] 240))):=((((Ext.refl w).alloc _).alloc _).alloc _).alloc _
 cases x with
 |error c=>
  have e:=HR.out
  simp only[zQ] at e
  subst e
  rintro e w5 ⟨rfl,g5⟩
  have HE5:=Lib.hid (iq HX0.out g5 (by omega))
  refine leaves_cons (f:=222) (args:=#[.pointer (some ⟨w.heap.size,0,none⟩),.pointer (some ⟨w.heap.size+1,0,none⟩),.pointer (some ⟨w.heap.size+1+1,0,none⟩)]) (by simp) (by simp[go_sem]) ?_
  refine(Fa w w.heap.size (w.heap.size+1) (w.heap.size+1+1) c 0 0 _ _ _ _ _ [] w5 HE5.out (Nat.le_refl _) (by omega) (by omega) (by omega) (by omega) (by omega) (bD HV0.out g5 (by omega)) (bD HN0.out g5 (by omega)) (bD HE0.out g5 (by omega))).mono ?_
  rintro e u' w6 ⟨rfl,rfl,hv6,hn6,he6,hE6⟩
  have cv:=aN hv6
  have cn:=aN hn6
  have ce:=aN he6
  clear HV0 HN0 HE0 HX0 hv6 hn6 he6 g5
  refine⟨.tuple #[zeroV,.int .i64 0,.int .i64 c],?_,⟨_,rfl,pO _ _ _,hE6⟩⟩
  simp only[results,Tryz.results144,zeroV]
  go_simp
 |ok tqb=>
  obtain⟨t5,q5,b5⟩:=tqb
  have e:=HR.out
  simp only[zQ] at e
  subst e
  rintro e w5 ⟨v5,rfl,hv5,hb5,g5⟩
  have HW5:=Lib.hid hv5
  have HB5:=Lib.hid hb5
  have HX5:=Lib.hid (iq HX0.out g5 (by omega))
  have HV5:=Lib.hid (bD HV0.out g5 (by omega))
  have HN5:=Lib.hid (bD HN0.out g5 (by omega))
  have HE5:=Lib.hid (bD HE0.out g5 (by omega))
  have s5:w.heap.size+1+1+1<w5.heap.size:=by have:=g5.size;simp at this;omega
  obtain⟨k',i',s',la',ln',lc',da',dn',dc',rfl⟩:=fE.shape (show fE (win _ w5) t5 v5 from HW5.out)
  clear hv5 hb5 g5 HV0 HN0 HE0 HX0 hmf
  have cv:=aN HV5.out
  have fv:=aX HV5.out
  have cb:=aN HB5.out
  go_wp2_with fail
  obtain⟨W6,hW6⟩:∃W,((((w5.setCell ⟨w.heap.size,0,none⟩ (.int .i64 k')).setCell ⟨w.heap.size,1,none⟩ (.int .i64 i')).setCell ⟨w.heap.size,2,none⟩ (.string s')).setCell ⟨w.heap.size,3,none⟩ (.slice la' ln' lc')).setCell ⟨w.heap.size,4,none⟩ (.slice da' dn' dc')=W:=⟨_,rfl⟩
  have HV6:Hid (W6.heap[w.heap.size]?=some (.cells #[.int .i64 k',.int .i64 i',.string s',.slice la' ln' lc',.slice da' dn' dc'] 25 (0,0))):=by rw[←hW6];exact sV HV5.out _ _ _ _ _
  have hfar:∀g,g≠w.heap.size→W6.heap[g]?=w5.heap[g]?:=fun g hg=>by
   rw[←hW6,Below.heap_setCell _ _ _ g hg,Below.heap_setCell _ _ _ g hg,Below.heap_setCell _ _ _ g hg,Below.heap_setCell _ _ _ g hg,Below.heap_setCell _ _ _ g hg]
  have HN6:Hid (W6.heap[w.heap.size+1]?=some (.cells #[.int .i64 0] 3 (0,0))):=(hfar _ (by omega)).trans HN5.out
  have HE6:Hid (W6.heap[w.heap.size+1+1]?=some (.cells #[.int .i64 0] 53 (0,0))):=(hfar _ (by omega)).trans HE5.out
  have HB6:Hid (W6.heap[w.heap.size+1+1+1]?=some (bP s q5 b5)):=(hfar _ (by omega)).trans HB5.out
  have HX6:Hid (Ext w W6):=by
   rw[←hW6];exact((((HX5.out.setCell (p:=⟨w.heap.size,0,none⟩) (Nat.le_refl _) _).setCell (p:=⟨w.heap.size,1,none⟩) (Nat.le_refl _) _).setCell (p:=⟨w.heap.size,2,none⟩) (Nat.le_refl _) _).setCell (p:=⟨w.heap.size,3,none⟩) (Nat.le_refl _) _).setCell (p:=⟨w.heap.size,4,none⟩) (Nat.le_refl _) _
  have HW6:=Lib.hid (HW5.out.keep (w':=W6) (Nat.le_refl _) (Nat.le_refl _) (fun i h1 h2=>hfar i (by simp at h1;omega)))
  have hz6:W6.heap.size=w5.heap.size:=by rw[←hW6];simp[World.setCell]
  have HZ6:=Lib.hid hz6
  rw[hW6]
  clear hz6 hW6 hfar cv fv cb HV5 HN5 HE5 HB5 HX5 HW5
  have cv:=aN HV6.out
  have fv:=aX HV6.out
  have cn:=aN HN6.out
  have fn:=aX HN6.out
  have ce:=aN HE6.out
  have fe:=aX HE6.out
  refine jd (fun W=>W.heap[w.heap.size+1+1+1]?=some (bP s q5 b5)∧W.heap[w.heap.size]?=some (.cells #[.int .i64 k',.int .i64 i',.string s',.slice la' ln' lc',.slice da' dn' dc'] 25 (0,0))) [(true,0),(true,1),(true,2),(false,3),(false,4),(false,5)] (by kernel_rfl) (by kernel_rfl) (by kernel_rfl) (by kernel_rfl) ?hS ?_
  case hS=>exact⟨HB6.out,HV6.out⟩
  repeat (first|(refine kM (v:=?_) rfl rfl ?_ ?_;rotate_left;(· intro wq hSq;have cq:=aN hSq.1;have cq2:=aN hSq.2;go_simp;try (with_reducible rfl));simp only[Act.put,List.setIfInBounds_toArray,List.set_cons_zero,List.set_cons_succ,List.getElem_toArray,List.getElem_cons_zero,List.getElem_cons_succ])|(refine kN rfl rfl ?_;simp only[Act.put,List.setIfInBounds_toArray,List.set_cons_zero,List.set_cons_succ,List.getElem_toArray,List.getElem_cons_zero,List.getElem_cons_succ]))
  refine jC rfl rfl (fun K hK=>?_)
  go_simp
  obtain⟨W7,hW7⟩:∃W,((((W6.setCell ⟨w.heap.size,0,none⟩ (.int .i64 k')).setCell ⟨w.heap.size,1,none⟩ (.int .i64 i')).setCell ⟨w.heap.size,2,none⟩ (.string s')).setCell ⟨w.heap.size,3,none⟩ (.slice la' ln' lc')).setCell ⟨w.heap.size,4,none⟩ (.slice da' dn' dc')=W:=⟨_,rfl⟩
  have HV7:Hid (W7.heap[w.heap.size]?=some (.cells #[.int .i64 k',.int .i64 i',.string s',.slice la' ln' lc',.slice da' dn' dc'] 25 (0,0))):=by rw[←hW7];exact sV HV6.out _ _ _ _ _
  have hfar:∀g,g≠w.heap.size→W7.heap[g]?=W6.heap[g]?:=fun g hg=>by
   rw[←hW7,Below.heap_setCell _ _ _ g hg,Below.heap_setCell _ _ _ g hg,Below.heap_setCell _ _ _ g hg,Below.heap_setCell _ _ _ g hg,Below.heap_setCell _ _ _ g hg]
  have HN7:Hid (W7.heap[w.heap.size+1]?=some (.cells #[.int .i64 0] 3 (0,0))):=(hfar _ (by omega)).trans HN6.out
  have HE7:Hid (W7.heap[w.heap.size+1+1]?=some (.cells #[.int .i64 0] 53 (0,0))):=(hfar _ (by omega)).trans HE6.out
  have HB7:Hid (W7.heap[w.heap.size+1+1+1]?=some (bP s q5 b5)):=(hfar _ (by omega)).trans HB6.out
  have HX7:Hid (Ext w W7):=by
   rw[←hW7];exact((((HX6.out.setCell (p:=⟨w.heap.size,0,none⟩) (Nat.le_refl _) _).setCell (p:=⟨w.heap.size,1,none⟩) (Nat.le_refl _) _).setCell (p:=⟨w.heap.size,2,none⟩) (Nat.le_refl _) _).setCell (p:=⟨w.heap.size,3,none⟩) (Nat.le_refl _) _).setCell (p:=⟨w.heap.size,4,none⟩) (Nat.le_refl _) _
  have HW7:=Lib.hid (HW6.out.keep (w':=W7) (Nat.le_refl _) (Nat.le_refl _) (fun i h1 h2=>hfar i (by simp at h1;omega)))
  have hz7:W7.heap.size=W6.heap.size:=by rw[←hW7];simp[World.setCell]
  have HZ7:=Lib.hid hz7
  rw[hW7]
  clear hz7 hW7 hfar cv fv cn fn ce fe
  refine hK _ _ ⟨HB7.out,HV7.out⟩ ?_
  clear hK K HV6 HN6 HE6 HB6 HX6 HW6
  have cn:=aN HN7.out
  have fn:=aX HN7.out
  refine jC rfl rfl (fun K hK=>?_)
  go_simp
  obtain⟨W8,hW8⟩:∃W,W7.setCell ⟨w.heap.size+1,0,none⟩ (.int .i64 (q5:Int))=W:=⟨_,rfl⟩
  have hfar:∀g,g≠w.heap.size+1→W8.heap[g]?=W7.heap[g]?:=fun g hg=>by rw[←hW8,Below.heap_setCell _ _ _ g hg]
  have HV8:Hid (W8.heap[w.heap.size]?=some (.cells #[.int .i64 k',.int .i64 i',.string s',.slice la' ln' lc',.slice da' dn' dc'] 25 (0,0))):=(hfar _ (by omega)).trans HV7.out
  have HN8:Hid (W8.heap[w.heap.size+1]?=some (.cells #[.int .i64 (q5:Int)] 3 (0,0))):=by rw[←hW8];exact gB HN7.out 0 _
  have HE8:Hid (W8.heap[w.heap.size+1+1]?=some (.cells #[.int .i64 0] 53 (0,0))):=(hfar _ (by omega)).trans HE7.out
  have HB8:Hid (W8.heap[w.heap.size+1+1+1]?=some (bP s q5 b5)):=(hfar _ (by omega)).trans HB7.out
  have HX8:Hid (Ext w W8):=by rw[←hW8];exact HX7.out.setCell (p:=⟨w.heap.size+1,0,none⟩) (by simp) _
  have HW8:=Lib.hid (HW7.out.keep (w':=W8) (Nat.le_refl _) (Nat.le_refl _) (fun i h1 h2=>hfar i (by simp at h1;omega)))
  have hz8:W8.heap.size=W7.heap.size:=by rw[←hW8];simp[World.setCell]
  have HZ8:=Lib.hid hz8
  rw[hW8]
  clear hz8 hW8 hfar cn fn
  refine hK _ _ ⟨HB8.out,HV8.out⟩ ?_
  clear hK K HV7 HN7 HE7 HB7 HX7 HW7
  have ce:=aN HE8.out
  have fe:=aX HE8.out
  refine jC rfl rfl (fun K hK=>?_)
  go_simp
  obtain⟨W9,hW9⟩:∃W,W8.setCell ⟨w.heap.size+1+1,0,none⟩ (.int .i64 0)=W:=⟨_,rfl⟩
  have hfar:∀g,g≠w.heap.size+1+1→W9.heap[g]?=W8.heap[g]?:=fun g hg=>by rw[←hW9,Below.heap_setCell _ _ _ g hg]
  have HV9:Hid (W9.heap[w.heap.size]?=some (.cells #[.int .i64 k',.int .i64 i',.string s',.slice la' ln' lc',.slice da' dn' dc'] 25 (0,0))):=(hfar _ (by omega)).trans HV8.out
  have HN9:Hid (W9.heap[w.heap.size+1]?=some (.cells #[.int .i64 (q5:Int)] 3 (0,0))):=(hfar _ (by omega)).trans HN8.out
  have HE9:Hid (W9.heap[w.heap.size+1+1]?=some (.cells #[.int .i64 0] 53 (0,0))):=by rw[←hW9];exact gB HE8.out 0 _
  have HB9:Hid (W9.heap[w.heap.size+1+1+1]?=some (bP s q5 b5)):=(hfar _ (by omega)).trans HB8.out
  have HX9:Hid (Ext w W9):=by rw[←hW9];exact HX8.out.setCell (p:=⟨w.heap.size+1+1,0,none⟩) (by simp;omega) _
  have HW9:=Lib.hid (HW8.out.keep (w':=W9) (Nat.le_refl _) (Nat.le_refl _) (fun i h1 h2=>hfar i (by simp at h1;omega)))
  have hz9:W9.heap.size=W8.heap.size:=by rw[←hW9];simp[World.setCell]
  have HZ9:=Lib.hid hz9
  rw[hW9]
  clear hz9 hW9 hfar ce fe
  refine hK _ _ ⟨HB9.out,HV9.out⟩ ?_
  clear hK K HV8 HN8 HE8 HB8 HX8 HW8 HB9
  refine l9 ?_
  go_wp2_with fail
  refine leaves_cons (f:=222) (args:=#[.pointer (some ⟨w.heap.size,0,none⟩),.pointer (some ⟨w.heap.size+1,0,none⟩),.pointer (some ⟨w.heap.size+1+1,0,none⟩)]) (by simp) (by simp[go_sem]) ?_
  refine(JD _ _ _ _).mono ?_
  rintro e u' w10 ⟨rfl,rfl,rfl⟩
  have cv:=aN HV9.out
  have cn:=aN HN9.out
  have ce:=aN HE9.out
  refine⟨.tuple #[.agg #[.int .i64 k',.int .i64 i',.string s',.slice la' ln' lc',.slice da' dn' dc'],.int .i64 (q5:Int),.int .i64 0],?_,⟨_,rfl,HW9.out.keep (w':=W9.drew) (by simp;omega) (by show _≤W9.heap.size;rw[HZ9.out,HZ8.out,HZ7.out,HZ6.out];exact Nat.le_refl _) (fun _ _ _=>rfl),HX9.out.drew⟩⟩
  simp only[results,Tryz.results144]
  go_simp
end Go.Proofs.YtflpefkohpjjpaaGreatDoor
