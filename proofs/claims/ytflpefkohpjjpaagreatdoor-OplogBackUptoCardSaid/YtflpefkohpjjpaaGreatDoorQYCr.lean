/- codec.Read: its deferred closure finds no panic. -/
import Derived.Test.YtflpefkohpjjpaaGreatDoorQY5
import Derived.Defers
import Derived.Recover
import Derived.Outline
set_option linter.unusedSimpArgs false
set_option linter.unusedVariables false
namespace Go.Proofs.YtflpefkohpjjpaaGreatDoor
open Go.RowKit
set_option maxRecDepth 20000 in
set_option maxHeartbeats 4000000 in
noncomputable def FW(p_at:Int)(p_s:ByteArray):Mo ((Bool)):=
 .ite (decide ((p_at:Int)<0)) (fun c2=>
  .say [.gd 4002 true] (okc c2 ok0)<|
  .ret ⟨[],[0,1,4,5,6,15],[],3⟩ (true)) fun c2=>
 .say [.gd 4002 false] (okc c2 ok0)<|
 .ret ⟨[],[0,1,4,5,6,15],[],3⟩ (decide (((p_s.size:Int):Int)<p_at))
noncomputable def UD(p_at:Int)(p_s:ByteArray):Option ((Bool)):=Mo.den (FW p_at p_s)
noncomputable def uJ(r_:(Bool)):Exit:=.normal
noncomputable def oD(p_at:Int)(p_s:ByteArray)(r_:(Bool)):St:=⟨[(0,.lf (.str p_s)),(1,.lf (.int .i64 p_at)),(4,.ptr 0 0),(5,.ptr 1 0),(6,.ptr 2 0),(15,.lf (.bool r_))],[.box 25 (.agg [.lf (.int .i64 0),.lf (.int .i64 0),.lf (.str ⟨#[]⟩),.bU 5,.bU 6]),.box 3 (.dat [(.int .i64 0)]),.box 53 (.dat [(.int .i64 0)])]⟩
set_option maxRecDepth 20000 in
set_option maxHeartbeats 4000000 in
theorem FX{p_at:Int}{p_s:ByteArray}{r_:(Bool)}(h:UD p_at p_s=some r_):AWa Tryz.prog GI TTc Tryz.f144.ntmps 0 (Code.sub (bodyC Tryz.f144) [1,0,0]) (uJ r_) (oD p_at p_s r_) ⟨[(0,.lf (.str p_s)),(1,.lf (.int .i64 p_at)),(4,.ptr 0 0),(5,.ptr 1 0),(6,.ptr 2 0)],[.box 25 (.agg [.lf (.int .i64 0),.lf (.int .i64 0),.lf (.str ⟨#[]⟩),.bU 5,.bU 6]),.box 3 (.dat [(.int .i64 0)]),.box 53 (.dat [(.int .i64 0)])]⟩:=
 BN nN (FW p_at p_s) uJ (oD p_at p_s) (by kernel_rfl) h
set_option maxRecDepth 20000 in
set_option maxHeartbeats 4000000 in
noncomputable def ajd(p_s:ByteArray)(p_at:Int):Mo (ah×Int×Int):=
 .ask (UD p_at p_s) fun r4 h5=>
 .say [.part [] 9 [0,1,4,5,6] 3 (uJ r4) (oD p_at p_s r4).T (oD p_at p_s r4).H] (okc (FX h5) ok0)<|
 .ite (r4) (fun c7=>
  .say [.br true] (okc c7 ok0)<|
  .ret (bn 3) (ah.mk 0 0 ⟨#[]⟩ [] [],0,1)) fun c7=>
 .say [.br false,.at_ 12 0,.norm 3] (okc c7 ok0)<|
 .ask (Q1 1 (aT.mk p_s p_at 0)) fun r791 h792=>
 .say [.gy [3] (.dat (ah.lf1 r791.1)) [.box 240 (.dat (aT.lf1 r791.2))],.order [(true,1),(true,2),(false,0),(false,3),(false,4),(false,5)] (some 5) [0,1]] (okc (ajc _ _ _ h792) ok0)<|
 .ret (bn 3) (r791.1,r791.2.fat,0)
noncomputable def Q32(p_s:ByteArray)(p_at:Int):Option (ah×Int×Int):=Mo.den (ajd p_s p_at)
theorem abK(a b c x:Value):#[a,b,c]++((Array.replicate 17 undef).setIfInBounds 3 x).setIfInBounds 0 x=#[a,b,c,x,undef,undef,x,undef,undef,undef,undef,undef,undef,undef,undef,undef,undef,undef,undef,undef]:=by kernel_rfl
def agx(R:World→Prop):Exit→Act→World→Prop
 |.normal,a,w|.ret,a,w=>a.defers=[]∧R w
 |_,_,_=>False
set_option maxRecDepth 20000 in
set_option maxHeartbeats 1000000 in
theorem abL(pv pn pe:Addr)(w:World):
 CallsD Tryz.prog 222 #[.pointer (some pv),.pointer (some pn),.pointer (some pe)] .returning w fun e u' w'=>e=.returned (.tuple #[])∧u'=.returning∧w=w':=by
 refine callsD_of_wpS Tryz.func222 rfl fun c₀ cs hu=>?_
 apply wpS_seq
 apply wpS_region
 simp[wpOpsS,go_sem,recoverD,hu,Tryz.ntmps222,Exit.thenS]
 refine wpS_of_wp (Code.wp_mono (Q:=agx (fun w'=>w=w')) ?himp ?_)
 case himp=>(intro e a w' h;cases e<;>first|exact h.elim|(obtain⟨h1,rfl⟩:=h;exact⟨h1,_,rfl,_,results_none rfl _ _ _,rfl,by first|rfl|exact hu,rfl⟩))
 rw[abK]
 go_wp2_with fail
 exact⟨rfl,rfl⟩
noncomputable abbrev RdF:Func:=Tryz.f144
theorem YQ{P:Program}{ops:Array Oper}{Q:Exit→Act→World→Prop}{i:Nat}{rest:List Nat}{o:Oper}{a:Act}{w:World}(ho:ops[i]?=some o)(hw:Region.wanted o (yielded ops a.tmps)=true)(h:o.wp P a w (wpOps P ops Q rest) Q):wpOps P ops Q (i::rest) a w:=by
 unfold wpOps
 rw[ho]
 simp only
 rw[if_pos hw]
 exact .inl h
def akw(o:Option CR):St:=match o with
 |some r=>r.st
 |none=>⟨[],[]⟩
noncomputable abbrev rdx (code:Code) (st:St) (qs:List Ans):Option CR:=ex Tryz.prog GI TTc RdF.ntmps 0 code st qs
noncomputable def rd0(p_s:ByteArray)(p_at:Int):St:=⟨qY 0 [.lf (.str p_s),.lf (.int .i64 p_at)],[]⟩
noncomputable def rd1(p_s:ByteArray)(p_at:Int):St:=akw (rdx (Code.sub (bodyC RdF) [0]) (rd0 p_s p_at) [])
noncomputable def rdq(p_s:ByteArray)(p_at:Int)(r4:Bool):List Ans:=[.part [] 9 [0,1,4,5,6] 3 (uJ r4) (oD p_at p_s r4).T (oD p_at p_s r4).H,.br false]
noncomputable def rd2(p_s:ByteArray)(p_at:Int)(r4:Bool):St:=akw (rdx (Code.sub (bodyC RdF) [1,0]) (rd1 p_s p_at) (rdq p_s p_at r4))
noncomputable def rd3(p_s:ByteArray)(p_at:Int)(r4:Bool):St:=match exO Tryz.prog GI TTc RdF.ntmps 0 (Code.sub (bodyC RdF) [1,1,0]) [0] (rd2 p_s p_at r4) [] ⟨[],[0,1,4,5,6,17],[],3⟩ with
 |some (st,_)=>st
 |none=>⟨[],[]⟩
noncomputable def rdr(r7:ah×aT):List Ans:=[.at_ 12 0,.norm 3,.gy [3] (.dat (ah.lf1 r7.1)) [.box 240 (.dat (aT.lf1 r7.2))],.order [(true,1),(true,2),(false,0),(false,3),(false,4),(false,5)] (some 5) [0,1]]
noncomputable def rd4(p_s:ByteArray)(p_at:Int)(r4:Bool)(r7:ah×aT):St:=akw (rdx (Code.sub (bodyC RdF) [1,1,1]) (rd3 p_s p_at r4) (rdr r7))
def agy:Code→Array Oper
 |.region _ ops _=>ops
 |_=>#[]
noncomputable def Qy:Array Oper:=agy (Code.sub (bodyC RdF) [1,1,0])
noncomputable def UE:Oper:=(Qy[1]?).getD default
theorem agz:UE.op=.defer ⟨.value (.tmp 17),#[],#[]⟩:=by kernel_rfl
theorem abM:UE.dst=none:=by kernel_rfl
theorem YR(y:Nat→Option Bool):Region.wanted UE y=true:=by kernel_rfl
theorem agA:Qy[1]?=some UE:=by kernel_rfl
theorem abN:Code.sub (bodyC RdF) [1,1,0]=.region 3 Qy false:=by kernel_rfl
theorem abO:List.range Qy.size=[0]++[1]:=by kernel_rfl
theorem abP:bodyC RdF=.seq (Code.sub (bodyC RdF) [0]) (.seq (Code.sub (bodyC RdF) [1,0]) (.seq (Code.sub (bodyC RdF) [1,1,0]) (Code.sub (bodyC RdF) [1,1,1]))):=by kernel_rfl
theorem agB:RdF.body=some (bodyC RdF):=by kernel_rfl
theorem abQ(ev:Operand→Value)(cs:Array Value)(w:World)(h:ev (.tmp 17)=.func (.func 222) #[] cs):(execOp ev UE).run Tryz.prog w=.ok (.defer ⟨.fn (.func 222) cs,#[]⟩) w:=by
 unfold execOp
 rw[agz]
 simp[resolve,h,Deferred.ofValue]
set_option maxRecDepth 20000 in
set_option maxHeartbeats 4000000 in
theorem abR(p_s:ByteArray)(p_at:Int)(r:ah×Int×Int)(h:Q32 p_s p_at=some r):Fn Tryz.prog GI 144 [.lf (.str p_s),.lf (.int .i64 p_at)] (.tup [.dat (ah.lf1 r.1),.lf (.int .i64 r.2.1),.lf (.int .i64 r.2.2)]):=by
 obtain⟨r4,h5,h⟩:=yB (show Qh _ _=_ from h)
 rcases Fq (show WE _ _ _=_ from h) with⟨c7,h⟩|⟨c7,h⟩
 ·obtain rfl:(ah.mk 0 0 ⟨#[]⟩ [] [],(0:Int),(1:Int))=r:=Option.some.inj h
  exact Fn.akc (abm nN Tryz.func144 (by kernel_rfl) (by kernel_rfl) (by kernel_rfl) [.part [] 9 [0,1,4,5,6] 3 (uJ r4) (oD p_at p_s r4).T (oD p_at p_s r4).H,.br true] (l:=[.dat (ah.lf1 (ah.mk 0 0 ⟨#[]⟩ [] [])),.lf (.int .i64 0),.lf (.int .i64 1)]) (H':=[]) (bn 3) _ (by kernel_rfl) (okc (FX h5) (okc c7 ok0)))
 obtain⟨r7,h8,h⟩:=yB (show Qh _ _=_ from h)
 obtain rfl:(r7.1,r7.2.fat,(0:Int))=r:=Option.some.inj h
 refine Fn.akc ⟨by kernel_rfl,fun e C w vs hG hM hvs=>?_⟩
 obtain⟨s,hs0⟩:∃s:Sur 0,s=⟨w,e.I,blks e [],e,hM.bound,[]⟩:=⟨_,rfl⟩
 have hR0:Rep (mkC Tryz.prog GI TTc RdF.ntmps s) e C (rd0 p_s p_at) _ w:=IV hG hM hvs (show 2≤RdF.ntmps from Nat.le_of_ble_eq_true (by kernel_rfl)) s hs0
 refine calls_of_wp_defers Tryz.func144 agB ?_
 rw[abP]
 apply wp_seq
 refine Code.wp_mono ?_ (Qa nN s (x:=.normal) (st':=rd1 p_s p_at) [] [] (by kernel_rfl) trivial _ _ _ _ hR0)
 rintro x1 a1 w1 ⟨rfl,e1,C1,hR1⟩
 show(Code.seq _ _).wp _ _ a1 w1
 apply wp_seq
 refine Code.wp_mono ?_ (Qa nN s (x:=.normal) (st':=rd2 p_s p_at r4) (rdq p_s p_at r4) _ (by kernel_rfl) (okc (FX h5) (okc c7 ok0)) _ _ _ _ hR1)
 rintro x2 a2 w2 ⟨rfl,e2,C2,hR2⟩
 show(Code.seq _ _).wp _ _ a2 w2
 apply wp_seq
 rw[abN]
 refine wp_region ?_
 rw[abO]
 have hAW:abh Tryz.prog GI TTc RdF.ntmps 0 (Code.sub (bodyC RdF) [1,1,0]) [0] (rd3 p_s p_at r4) (rd2 p_s p_at r4):=abl nN [] ⟨[],[0,1,4,5,6,17],[],3⟩ [] (by kernel_rfl) trivial
 rw[abN] at hAW
 refine(show ∀s:Sur 0,AWo (mkC Tryz.prog GI TTc RdF.ntmps s) Qy [0] _ _ from hAW) s _ [1] e2 C2 a2 w2 hR2 fun e3 C3 a3 w3 hR3=>?_
 obtain⟨v17,ht17,hv17⟩:=hR3.tmp 17 (.clo 222 [.ptr 0 0,.ptr 1 0,.ptr 2 0]) (by kernel_rfl)
 obtain⟨cs,rfl,hcs⟩:=VR.clo.1 hv17
 have hev:a3.eval (.tmp 17)=.func (.func 222) #[] cs.toArray:=by
  show a3.tmps.getD 17 undef=_
  rw[Array.getD_eq_getD_getElem?,ht17];rfl
 refine YQ agA (YR _) ?_
 show Oper.upon Tryz.prog UE a3 _ _ ((execOp a3.eval UE).run Tryz.prog w3)
 rw[abQ _ _ _ hev,Oper.upon_defer,abM]
 show Code.wp Tryz.prog (Code.sub (bodyC RdF) [1,1,1]) _ { a3 with defers:=⟨.fn (.func 222) cs.toArray,#[]⟩::a3.defers } w3
 obtain⟨s2,hs2⟩:∃s2:Sur 0,s2=⟨w,e.I,blks e [],e,hM.bound,[⟨.fn (.func 222) cs.toArray,#[]⟩]⟩:=⟨_,rfl⟩
 have hR3':Rep (mkC Tryz.prog GI TTc RdF.ntmps s2) e3 C3 (rd3 p_s p_at r4) { a3 with defers:=⟨.fn (.func 222) cs.toArray,#[]⟩::a3.defers } w3:=by
  have k:=hR3.mem
  have k2:=hR3.defers
  refine⟨hR3.tmp,hR3.size,?_,?_⟩
  ·subst hs0 hs2
   show _::a3.defers=_
   rw[k2];rfl
  ·subst hs0 hs2
   exact⟨k.hv,k.hw,k.bound,k.inj,k.av,k.mine,k.inv,k.le,k.fresh,k.ch,k.g,k.bse⟩
 refine Code.wp_mono ?_ (Qa nN s2 (x:=.ret) (st':=rd4 p_s p_at r4 r7) (rdr r7) _ (by kernel_rfl) (okc (ajc _ _ _ h8) ok0) _ _ _ _ hR3')
 rintro x4 a4 w4 ⟨rfl,e4,C4,hR4⟩
 obtain⟨p0,q0,rfl,g0,hcs⟩:=VRs.DN hcs
 obtain⟨p1,q1,rfl,g1,hcs⟩:=VRs.DN hcs
 obtain⟨p2,q2,rfl,g2,hcs⟩:=VRs.DN hcs
 obtain rfl:=VRs.abA hcs
 unfold VR at g0 g1 g2
 obtain⟨_,rfl⟩:=g0
 obtain⟨_,rfl⟩:=g1
 obtain⟨_,rfl⟩:=g2
 show Leaves Tryz.prog RdF a4.tmps _ a4.defers .returning w4
 rw[show a4.defers=[⟨.fn (.func 222) #[.pointer (some ⟨e3.m 0,0,none⟩),.pointer (some ⟨e3.m 1,0,none⟩),.pointer (some ⟨e3.m 2,0,none⟩)],#[]⟩] by rw[hR4.defers];subst hs2;rfl]
 refine leaves_cons (f:=222) (args:=#[.pointer (some ⟨e3.m 0,0,none⟩),.pointer (some ⟨e3.m 1,0,none⟩),.pointer (some ⟨e3.m 2,0,none⟩)]) (by simp) (by simp[go_sem]) ((abL _ _ _ w4).mono ?_)
 rintro e5 u5 w5 ⟨rfl,rfl,rfl⟩
 exact WC nN hM _ s2 hs2 hR4 (l1:=[.dat (ah.lf1 r7.1),.lf (.int .i64 r7.2.fat),.lf (.int .i64 0)]) (st2:=⟨qY 0 [.dat (ah.lf1 r7.1),.lf (.int .i64 r7.2.fat),.lf (.int .i64 0)],[]⟩) (l2:=[.dat (ah.lf1 r7.1),.lf (.int .i64 r7.2.fat),.lf (.int .i64 0)]) (ft:=bn 3) (p2:=[]) (by kernel_rfl) (by kernel_rfl) trivial (by kernel_rfl)
end Go.Proofs.YtflpefkohpjjpaaGreatDoor
