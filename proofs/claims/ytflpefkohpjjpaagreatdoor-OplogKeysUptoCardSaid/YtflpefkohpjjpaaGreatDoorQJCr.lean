/- codec.Read: its deferred closure finds no panic. -/
import Derived.Test.YtflpefkohpjjpaaGreatDoorQJ5
import Derived.Defers
import Derived.Recover
import Derived.Outline
set_option linter.unusedSimpArgs false
set_option linter.unusedVariables false
namespace Go.Proofs.YtflpefkohpjjpaaGreatDoor
open Go.RowKit
set_option maxRecDepth 20000 in
set_option maxHeartbeats 4000000 in
noncomputable def Nq(p_at:Int)(p_s:ByteArray):Mo ((Bool)):=
 .ite (decide ((p_at:Int)<0)) (fun c2=>
  .say [.gd 4002 true] (okc c2 ok0)<|
  .ret ⟨[],[0,1,4,5,6,15],[],3⟩ (true)) fun c2=>
 .say [.gd 4002 false] (okc c2 ok0)<|
 .ret ⟨[],[0,1,4,5,6,15],[],3⟩ (decide (((p_s.size:Int):Int)<p_at))
noncomputable def abz(p_at:Int)(p_s:ByteArray):Option ((Bool)):=Mo.den (Nq p_at p_s)
noncomputable def rH(r_:(Bool)):Exit:=.normal
noncomputable def lM(p_at:Int)(p_s:ByteArray)(r_:(Bool)):St:=⟨[(0,.lf (.str p_s)),(1,.lf (.int .i64 p_at)),(4,.ptr 0 0),(5,.ptr 1 0),(6,.ptr 2 0),(15,.lf (.bool r_))],[.box 25 (.agg [.lf (.int .i64 0),.lf (.int .i64 0),.lf (.str ⟨#[]⟩),.bJ 5,.bJ 6]),.box 3 (.dat [(.int .i64 0)]),.box 53 (.dat [(.int .i64 0)])]⟩
set_option maxRecDepth 20000 in
set_option maxHeartbeats 4000000 in
theorem CB{p_at:Int}{p_s:ByteArray}{r_:(Bool)}(h:abz p_at p_s=some r_):AWa Tryz.prog GI TTc Tryz.f144.ntmps 0 (Code.sub (bodyC Tryz.f144) [1,0,0]) (rH r_) (lM p_at p_s r_) ⟨[(0,.lf (.str p_s)),(1,.lf (.int .i64 p_at)),(4,.ptr 0 0),(5,.ptr 1 0),(6,.ptr 2 0)],[.box 25 (.agg [.lf (.int .i64 0),.lf (.int .i64 0),.lf (.str ⟨#[]⟩),.bJ 5,.bJ 6]),.box 3 (.dat [(.int .i64 0)]),.box 53 (.dat [(.int .i64 0)])]⟩:=
 BO kP (Nq p_at p_s) rH (lM p_at p_s) (by kernel_rfl) h
set_option maxRecDepth 20000 in
set_option maxHeartbeats 4000000 in
noncomputable def anl(p_s:ByteArray)(p_at:Int):Mo (ah×Int×Int):=
 .ask (abz p_at p_s) fun r4 h5=>
 .say [.part [] 9 [0,1,4,5,6] 3 (rH r4) (lM p_at p_s r4).T (lM p_at p_s r4).H] (okc (CB h5) ok0)<|
 .ite (r4) (fun c7=>
  .say [.br true] (okc c7 ok0)<|
  .ret (aX 3) (ah.mk 0 0 ⟨#[]⟩ [] [],0,1)) fun c7=>
 .say [.br false,.at_ 12 0,.norm 3] (okc c7 ok0)<|
 .ask (Q70 1 (aW.mk p_s p_at 0)) fun r791 h792=>
 .say [.fZ [3] (.dat (ah.lf1 r791.1)) [.box 240 (.dat (aW.lf1 r791.2))],.order [(true,1),(true,2),(false,0),(false,3),(false,4),(false,5)] (some 5) [0,1]] (okc (aby _ _ _ h792) ok0)<|
 .ret (aX 3) (r791.1,r791.2.fat,0)
noncomputable def Q54(p_s:ByteArray)(p_at:Int):Option (ah×Int×Int):=Mo.den (anl p_s p_at)
theorem abA(a b c x:Value):#[a,b,c]++((Array.replicate 17 undef).setIfInBounds 3 x).setIfInBounds 0 x=#[a,b,c,x,undef,undef,x,undef,undef,undef,undef,undef,undef,undef,undef,undef,undef,undef,undef,undef]:=by kernel_rfl
def agS(R:World→Prop):Exit→Act→World→Prop
 |.normal,a,w|.ret,a,w=>a.defers=[]∧R w
 |_,_,_=>False
set_option maxRecDepth 20000 in
set_option maxHeartbeats 1000000 in
theorem abB(pv pn pe:Addr)(w:World):
 CallsD Tryz.prog 222 #[.pointer (some pv),.pointer (some pn),.pointer (some pe)] .returning w fun e u' w'=>e=.returned (.tuple #[])∧u'=.returning∧w=w':=by
 refine callsD_of_wpS Tryz.func222 rfl fun c₀ cs hu=>?_
 apply wpS_seq
 apply wpS_region
 simp[wpOpsS,go_sem,recoverD,hu,Tryz.ntmps222,Exit.thenS]
 refine wpS_of_wp (Code.wp_mono (Q:=agS (fun w'=>w=w')) ?himp ?_)
 case himp=>(intro e a w' h;cases e<;>first|exact h.elim|(obtain⟨h1,rfl⟩:=h;exact⟨h1,_,rfl,_,results_none rfl _ _ _,rfl,by first|rfl|exact hu,rfl⟩))
 rw[abA]
 go_wp2_with fail
 exact⟨rfl,rfl⟩
noncomputable abbrev RdF:Func:=Tryz.f144
theorem Xt{P:Program}{ops:Array Oper}{Q:Exit→Act→World→Prop}{i:Nat}{rest:List Nat}{o:Oper}{a:Act}{w:World}(ho:ops[i]?=some o)(hw:Region.wanted o (yielded ops a.tmps)=true)(h:o.wp P a w (wpOps P ops Q rest) Q):wpOps P ops Q (i::rest) a w:=by
 unfold wpOps
 rw[ho]
 simp only
 rw[if_pos hw]
 exact .inl h
def akB(o:Option CR):St:=match o with
 |some r=>r.st
 |none=>⟨[],[]⟩
noncomputable abbrev rdx (code:Code) (st:St) (qs:List Ans):Option CR:=ex Tryz.prog GI TTc RdF.ntmps 0 code st qs
noncomputable def rd0(p_s:ByteArray)(p_at:Int):St:=⟨oC 0 [.lf (.str p_s),.lf (.int .i64 p_at)],[]⟩
noncomputable def rd1(p_s:ByteArray)(p_at:Int):St:=akB (rdx (Code.sub (bodyC RdF) [0]) (rd0 p_s p_at) [])
noncomputable def rdq(p_s:ByteArray)(p_at:Int)(r4:Bool):List Ans:=[.part [] 9 [0,1,4,5,6] 3 (rH r4) (lM p_at p_s r4).T (lM p_at p_s r4).H,.br false]
noncomputable def rd2(p_s:ByteArray)(p_at:Int)(r4:Bool):St:=akB (rdx (Code.sub (bodyC RdF) [1,0]) (rd1 p_s p_at) (rdq p_s p_at r4))
noncomputable def rd3(p_s:ByteArray)(p_at:Int)(r4:Bool):St:=match exO Tryz.prog GI TTc RdF.ntmps 0 (Code.sub (bodyC RdF) [1,1,0]) [0] (rd2 p_s p_at r4) [] ⟨[],[0,1,4,5,6,17],[],3⟩ with
 |some (st,_)=>st
 |none=>⟨[],[]⟩
noncomputable def rdr(r7:ah×aW):List Ans:=[.at_ 12 0,.norm 3,.fZ [3] (.dat (ah.lf1 r7.1)) [.box 240 (.dat (aW.lf1 r7.2))],.order [(true,1),(true,2),(false,0),(false,3),(false,4),(false,5)] (some 5) [0,1]]
noncomputable def rd4(p_s:ByteArray)(p_at:Int)(r4:Bool)(r7:ah×aW):St:=akB (rdx (Code.sub (bodyC RdF) [1,1,1]) (rd3 p_s p_at r4) (rdr r7))
def agT:Code→Array Oper
 |.region _ ops _=>ops
 |_=>#[]
noncomputable def Nr:Array Oper:=agT (Code.sub (bodyC RdF) [1,1,0])
noncomputable def QT:Oper:=(Nr[1]?).getD default
theorem agU:QT.op=.defer ⟨.value (.tmp 17),#[],#[]⟩:=by kernel_rfl
theorem abC:QT.dst=none:=by kernel_rfl
theorem Xu(y:Nat→Option Bool):Region.wanted QT y=true:=by kernel_rfl
theorem agV:Nr[1]?=some QT:=by kernel_rfl
theorem abD:Code.sub (bodyC RdF) [1,1,0]=.region 3 Nr false:=by kernel_rfl
theorem abE:List.range Nr.size=[0]++[1]:=by kernel_rfl
theorem abG:bodyC RdF=.seq (Code.sub (bodyC RdF) [0]) (.seq (Code.sub (bodyC RdF) [1,0]) (.seq (Code.sub (bodyC RdF) [1,1,0]) (Code.sub (bodyC RdF) [1,1,1]))):=by kernel_rfl
theorem agW:RdF.body=some (bodyC RdF):=by kernel_rfl
theorem abH(ev:Operand→Value)(cs:Array Value)(w:World)(h:ev (.tmp 17)=.func (.func 222) #[] cs):(execOp ev QT).run Tryz.prog w=.ok (.defer ⟨.fn (.func 222) cs,#[]⟩) w:=by
 unfold execOp
 rw[agU]
 simp[resolve,h,Deferred.ofValue]
set_option maxRecDepth 20000 in
set_option maxHeartbeats 4000000 in
theorem abI(p_s:ByteArray)(p_at:Int)(r:ah×Int×Int)(h:Q54 p_s p_at=some r):Fn Tryz.prog GI 144 [.lf (.str p_s),.lf (.int .i64 p_at)] (.tup [.dat (ah.lf1 r.1),.lf (.int .i64 r.2.1),.lf (.int .i64 r.2.2)]):=by
 obtain⟨r4,h5,h⟩:=vk (show Nb _ _=_ from h)
 rcases BN (show UE _ _ _=_ from h) with⟨c7,h⟩|⟨c7,h⟩
 ·obtain rfl:(ah.mk 0 0 ⟨#[]⟩ [] [],(0:Int),(1:Int))=r:=Option.some.inj h
  exact Fn.akh (abf kP Tryz.func144 (by kernel_rfl) (by kernel_rfl) (by kernel_rfl) [.part [] 9 [0,1,4,5,6] 3 (rH r4) (lM p_at p_s r4).T (lM p_at p_s r4).H,.br true] (l:=[.dat (ah.lf1 (ah.mk 0 0 ⟨#[]⟩ [] [])),.lf (.int .i64 0),.lf (.int .i64 1)]) (H':=[]) (aX 3) _ (by kernel_rfl) (okc (CB h5) (okc c7 ok0)))
 obtain⟨r7,h8,h⟩:=vk (show Nb _ _=_ from h)
 obtain rfl:(r7.1,r7.2.fat,(0:Int))=r:=Option.some.inj h
 refine Fn.akh ⟨by kernel_rfl,fun e C w vs hG hM hvs=>?_⟩
 obtain⟨s,hs0⟩:∃s:Sur 0,s=⟨w,e.I,blks e [],e,hM.bound,[]⟩:=⟨_,rfl⟩
 have hR0:Rep (mkC Tryz.prog GI TTc RdF.ntmps s) e C (rd0 p_s p_at) _ w:=FX hG hM hvs (show 2≤RdF.ntmps from Nat.le_of_ble_eq_true (by kernel_rfl)) s hs0
 refine calls_of_wp_defers Tryz.func144 agW ?_
 rw[abG]
 apply wp_seq
 refine Code.wp_mono ?_ (MS kP s (x:=.normal) (st':=rd1 p_s p_at) [] [] (by kernel_rfl) trivial _ _ _ _ hR0)
 rintro x1 a1 w1 ⟨rfl,e1,C1,hR1⟩
 show(Code.seq _ _).wp _ _ a1 w1
 apply wp_seq
 refine Code.wp_mono ?_ (MS kP s (x:=.normal) (st':=rd2 p_s p_at r4) (rdq p_s p_at r4) _ (by kernel_rfl) (okc (CB h5) (okc c7 ok0)) _ _ _ _ hR1)
 rintro x2 a2 w2 ⟨rfl,e2,C2,hR2⟩
 show(Code.seq _ _).wp _ _ a2 w2
 apply wp_seq
 rw[abD]
 refine wp_region ?_
 rw[abE]
 have hAW:aa9 Tryz.prog GI TTc RdF.ntmps 0 (Code.sub (bodyC RdF) [1,1,0]) [0] (rd3 p_s p_at r4) (rd2 p_s p_at r4):=abe kP [] ⟨[],[0,1,4,5,6,17],[],3⟩ [] (by kernel_rfl) trivial
 rw[abD] at hAW
 refine(show ∀s:Sur 0,AWo (mkC Tryz.prog GI TTc RdF.ntmps s) Nr [0] _ _ from hAW) s _ [1] e2 C2 a2 w2 hR2 fun e3 C3 a3 w3 hR3=>?_
 obtain⟨v17,ht17,hv17⟩:=hR3.tmp 17 (.clo 222 [.ptr 0 0,.ptr 1 0,.ptr 2 0]) (by kernel_rfl)
 obtain⟨cs,rfl,hcs⟩:=VR.clo.1 hv17
 have hev:a3.eval (.tmp 17)=.func (.func 222) #[] cs.toArray:=by
  show a3.tmps.getD 17 undef=_
  rw[Array.getD_eq_getD_getElem?,ht17];rfl
 refine Xt agV (Xu _) ?_
 show Oper.upon Tryz.prog QT a3 _ _ ((execOp a3.eval QT).run Tryz.prog w3)
 rw[abH _ _ _ hev,Oper.upon_defer,abC]
 show Code.wp Tryz.prog (Code.sub (bodyC RdF) [1,1,1]) _ { a3 with defers:=⟨.fn (.func 222) cs.toArray,#[]⟩::a3.defers } w3
 obtain⟨s2,hs2⟩:∃s2:Sur 0,s2=⟨w,e.I,blks e [],e,hM.bound,[⟨.fn (.func 222) cs.toArray,#[]⟩]⟩:=⟨_,rfl⟩
 have hR3':Rep (mkC Tryz.prog GI TTc RdF.ntmps s2) e3 C3 (rd3 p_s p_at r4) { a3 with defers:=⟨.fn (.func 222) cs.toArray,#[]⟩::a3.defers } w3:=by
  have k:=hR3.mem
  have k2:=hR3.defers
  refine⟨hR3.tmp,hR3.size,?_,?_⟩
  ·subst hs0 hs2
   show _::a3.defers=_
   rw[k2];rfl
  ·subst hs0 hs2
   exact⟨k.hv,k.hw,k.bound,k.inj,k.av,k.mine,k.inv,k.le,k.fresh,k.ch,k.g,k.bse⟩
 refine Code.wp_mono ?_ (MS kP s2 (x:=.ret) (st':=rd4 p_s p_at r4 r7) (rdr r7) _ (by kernel_rfl) (okc (aby _ _ _ h8) ok0) _ _ _ _ hR3')
 rintro x4 a4 w4 ⟨rfl,e4,C4,hR4⟩
 obtain⟨p0,q0,rfl,g0,hcs⟩:=VRs.F7 hcs
 obtain⟨p1,q1,rfl,g1,hcs⟩:=VRs.F7 hcs
 obtain⟨p2,q2,rfl,g2,hcs⟩:=VRs.F7 hcs
 obtain rfl:=VRs.agH hcs
 unfold VR at g0 g1 g2
 obtain⟨_,rfl⟩:=g0
 obtain⟨_,rfl⟩:=g1
 obtain⟨_,rfl⟩:=g2
 show Leaves Tryz.prog RdF a4.tmps _ a4.defers .returning w4
 rw[show a4.defers=[⟨.fn (.func 222) #[.pointer (some ⟨e3.m 0,0,none⟩),.pointer (some ⟨e3.m 1,0,none⟩),.pointer (some ⟨e3.m 2,0,none⟩)],#[]⟩] by rw[hR4.defers];subst hs2;rfl]
 refine leaves_cons (f:=222) (args:=#[.pointer (some ⟨e3.m 0,0,none⟩),.pointer (some ⟨e3.m 1,0,none⟩),.pointer (some ⟨e3.m 2,0,none⟩)]) (by simp) (by simp[go_sem]) ((abB _ _ _ w4).mono ?_)
 rintro e5 u5 w5 ⟨rfl,rfl,rfl⟩
 exact UD kP hM _ s2 hs2 hR4 (l1:=[.dat (ah.lf1 r7.1),.lf (.int .i64 r7.2.fat),.lf (.int .i64 0)]) (st2:=⟨oC 0 [.dat (ah.lf1 r7.1),.lf (.int .i64 r7.2.fat),.lf (.int .i64 0)],[]⟩) (l2:=[.dat (ah.lf1 r7.1),.lf (.int .i64 r7.2.fat),.lf (.int .i64 0)]) (ft:=aX 3) (p2:=[]) (by kernel_rfl) (by kernel_rfl) trivial (by kernel_rfl)
end Go.Proofs.YtflpefkohpjjpaaGreatDoor
