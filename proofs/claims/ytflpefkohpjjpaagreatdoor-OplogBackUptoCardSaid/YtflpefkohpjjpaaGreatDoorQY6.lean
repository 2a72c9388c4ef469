/- Contracts that were shown by hand (codec.Read by its printed reader). -/
import Derived.Test.YtflpefkohpjjpaaGreatDoorQYCr
set_option linter.unusedSimpArgs false
set_option linter.unusedVariables false
namespace Go.Proofs.YtflpefkohpjjpaaGreatDoor
open Go.RowKit
set_option maxRecDepth 20000
set_option maxHeartbeats 4000000
noncomputable section
def akx(p_n:Int):Mo (ah):=
 .ret (bn 1) (ah.mk 3 p_n ⟨#[]⟩ [] [])
def amv(p_n:Int):Option (ah):=Mo.den (akx p_n)
theorem Nl(p_n:Int):FV (amv p_n) 74 [.i_ p_n] (fun r=>.dat (ah.lf1 r)):=dL Tryz.func74
def aky(p_stamp:Int)(p_key:Int)(p_id:Int):Mo (bW):=
 .cl (Nl p_id) fun r4 _=>
 .ask (amv p_key) fun r6 h7=>
 .say [.kC (.q 0 (.q 1 (.q 2 (.alt 3 (.l 4 (.q 5 (.q 6 (.l 7 .fin)))) (.l 4 (.l 3 (.q 5 (.q 6 (.l 7 .fin))))))))) (some 7) [] [.both [.res (.dat (ah.lf1 r6))] [.res (.dat (ah.lf1 r6))]] [6] 3 [(6,.ptr 0 0)] [.box 51 (Uo Z51 [(0,.i_ 1),(1,.i_ p_stamp),(4,.i_ 2),(5,.lf (.str ⟨#[115]⟩)),(6,.i_ r6.ay),(7,.i_ r6.dG),(8,.lf (.str r6.fText)),(9,.lf (.rows 5 (r6.aU.map ah.lf))),(10,.lf (.rows 6 (r6.aY.map aJ.lf))),(11,.i_ 5),(15,.own 1)]),.row 115 6 [(aJ.lf1 (aJ.mk ⟨#[95,105,100]⟩ r4))],.box 25 (.agg [.i_ 5,.i_ 0,.lf (.str ⟨#[]⟩),.bU 5,.own 1])],.at_ 0 0,.uy 1 ([aJ.mk ⟨#[95,105,100]⟩ r4].map aJ.lf)] (okc (Nl _ _ h7) (okc (rf_ ⟨[(6,.ptr 0 0)],[.box 51 (Uo Z51 [(0,.i_ 1),(1,.i_ p_stamp),(4,.i_ 2),(5,.lf (.str ⟨#[115]⟩)),(6,.i_ r6.ay),(7,.i_ r6.dG),(8,.lf (.str r6.fText)),(9,.lf (.rows 5 (r6.aU.map ah.lf))),(10,.lf (.rows 6 (r6.aY.map aJ.lf))),(11,.i_ 5),(15,.own 1)]),.row 115 6 [(aJ.lf1 (aJ.mk ⟨#[95,105,100]⟩ r4))],.box 25 (.agg [.i_ 5,.i_ 0,.lf (.str ⟨#[]⟩),.bU 5,.own 1])]⟩) (okc (Nl _ _ h7) (okc (rf_ ⟨[(6,.ptr 0 0)],[.box 51 (Uo Z51 [(0,.i_ 1),(1,.i_ p_stamp),(4,.i_ 2),(5,.lf (.str ⟨#[115]⟩)),(6,.i_ r6.ay),(7,.i_ r6.dG),(8,.lf (.str r6.fText)),(9,.lf (.rows 5 (r6.aU.map ah.lf))),(10,.lf (.rows 6 (r6.aY.map aJ.lf))),(11,.i_ 5),(15,.own 1)]),.row 115 6 [(aJ.lf1 (aJ.mk ⟨#[95,105,100]⟩ r4))],.box 25 (.agg [.i_ 5,.i_ 0,.lf (.str ⟨#[]⟩),.bU 5,.own 1])]⟩) (ok1 (by simp[aJ.aW]:[aJ.mk ⟨#[95,105,100]⟩ r4].map aJ.lf=[(aJ.lf1 (aJ.mk ⟨#[95,105,100]⟩ r4))]))))))<|
 .ret (bn 1) (bW.mk 1 p_stamp ⟨#[]⟩ 0 (au.af8 (au.af7 (au.MJ (au.DJ au.z 2) ⟨#[115]⟩) r6) (ah.mk 5 0 ⟨#[]⟩ [] [aJ.mk ⟨#[95,105,100]⟩ r4])))
def anM(p_stamp:Int)(p_key:Int)(p_id:Int):Option (bW):=Mo.den (aky p_stamp p_key p_id)
theorem Np(p_stamp:Int)(p_key:Int)(p_id:Int):FV (anM p_stamp p_key p_id) 33 [.i_ p_stamp,.i_ p_key,.i_ p_id] (fun r=>.dat (bW.lf1 r)):=dL Tryz.func33
def lX(p_s:ByteArray):Mo (Bool):=
 .oV 4003 (decide (((p_s.size:Int):Int)<1)) [0,11] 0 (decide ((32:Int)<(p_s.size:Int)))
def lY(p_s:ByteArray)(r0:Bool):Mo (Bool):=
 .iG 4008 (r0) (.rt [0,16] 0 (true))<|
 .ask (jK p_s 0) fun b0 h0=>
 .say [.byt b0] (ok1 (fC h0))<|
 .rt [0,16] 0 ((b0.toNat:Int)==36)
def lg(p_s:ByteArray)(v0:Int):Mo (Bool):=
 .ask (jK p_s v0) fun b0 h0=>
 .say [.byt b0] (ok1 (fC h0))<|
 .iG 14004 (decide (((b0.toNat:Int):Int)<33)) (.rt [0,3,18,19,31] 0 (true))<|
 .ask (jK p_s v0) fun b1 h1=>
 .say [.byt b1] (ok1 (fC h1))<|
 .rt [0,3,18,19,31] 0 (decide ((126:Int)<(b1.toNat:Int)))
def lq(p_s:ByteArray)(r0:Bool)(v0:Int):Mo (Bool):=
 .iG 14010 (r0) (.rt [0,18,19,37] 0 (true))<|
 .ask (jK p_s v0) fun b0 h0=>
 .say [.byt b0] (ok1 (fC h0))<|
 .rt [0,18,19,37] 0 ((b0.toNat:Int)==46)
def Qz(p_s:ByteArray):(Int)→Mo ((Int)⊕(Unit⊕Unit)):=fun(v0)=>
 .iB (decide ((v0:Int)<(p_s.size:Int))) (.sf Tryz.f29 0 [1,1,0,1,0,0,1,1,0,0,1,0] 0 10 6 [(0,.lf (.str p_s)),(3,.i_ v0),(18,.i_ (p_s.size:Int)),(19,.i_ v0)] [] 31 (lg p_s v0) fun r0=>
 .sk Tryz.f29 0 [1,1,0,1,0,0,1,1,0,0,1,0] 10 6 6 (fun r_=>⟨[(0,.lf (.str p_s)),(18,.i_ (p_s.size:Int)),(19,.i_ v0),(37,.b_ r_)],[]⟩) ⟨[(0,.lf (.str p_s)),(3,.i_ v0),(18,.i_ (p_s.size:Int)),(19,.i_ v0),(31,.b_ r0)],[]⟩ (lq p_s r0 v0) fun r1=>
 .iB (r1) (.rt [2] 0 (.inr (.inl ())))<|
 .rt [0,18,19] 0 (.inl (IntKind.wrap .i64 (v0+1))))<|
 .rt [] 0 (.inr (.inr (())))
def amw(p_s:ByteArray):Mo (Bool):=
 .sf Tryz.f29 0 [1,0,0] 0 8 1 [(0,.lf (.str p_s))] [] 11 (lX p_s) fun r0=>
 .sb Tryz.f29 0 [1,0,0] 8 5 1 [(0,.lf (.str p_s))] [] 11 16 r0 (lY p_s r0) fun r1=>
 .iB (r1) (.ret (bn 1) (false))<|
 .l2 Tryz.f29 0 [1,1,0,1,0] 0 (fun(v0)=>⟨[(0,.lf (.str p_s)),(18,.i_ (p_s.size:Int)),(19,.i_ v0)],[]⟩) .ret (fun _=>⟨[(2,.b_ false)],[]⟩) (.exit 0) (fun _=>⟨[],[]⟩) (Qz p_s) (0) (fun o0=>
 .ret (bn 1) (false)) fun o1=>
 .ret (bn 1) (true)
def Q4(p_s:ByteArray):Option (Bool):=Mo.den (amw p_s)
theorem WZ(p_s:ByteArray):FV (Q4 p_s) 29 [.lf (.str p_s)] .b_:=dL Tryz.func29
def UF(p_kind:Int):Mo (aN):=
 .iB (p_kind==2) (.ret (bn 1) (aN.aki (aN.af9 (aN.yx aN.z true) true) true))<|
 .iB (p_kind==3) (.ret (bn 1) (aN.af9 (aN.yx aN.z true) true))<|
 .iB (p_kind==4) (.ret (bn 1) (aN.akj aN.z true))<|
 .iB (p_kind==5) (.ret (bn 1) (aN.yx aN.z true))<|
 .iB (p_kind==6) (.ret (bn 1) (aN.Un (aN.yx aN.z true) true))<|
 .iB (p_kind==7) (.ret (bn 1) (aN.yA (aN.yx aN.z true) true))<|
 .iB (p_kind==8) (.ret (bn 1) (aN.EF aN.z true))<|
 .iB (p_kind==9) (.ret (bn 1) (aN.EF (aN.YK aN.z true) true))<|
 .iB (p_kind==10) (.ret (bn 1) (aN.MQ (aN.YK aN.z true) true))<|
 .iB (p_kind==11) (.ret (bn 1) (aN.YK aN.z true))<|
 .iB (p_kind==12) (.ret (bn 1) (aN.MR (aN.MQ (aN.YK aN.z true) true) true))<|
 .ret (bn 1) (aN.z)
def akz(p_kind:Int):Option (aN):=Mo.den (UF p_kind)
theorem W9(p_kind:Int):FV (akz p_kind) 56 [.i_ p_kind] (fun r=>.dat (aN.lf1 r)):=dL Tryz.func56
def o9(p_v:ah):Mo (Bool):=
 .aV 4003 (p_v.ay==0) [1,2,10] 1 (p_v.dG==0)
def pq(p_v:ah)(r0:Bool):Mo (Bool):=
 .aV 4008 (r0) [1,2,15] 1 (decide ((p_v.fText:ByteArray)=(⟨#[]⟩:ByteArray)))
def ng(p_v:ah)(r0:Bool):Mo (Bool):=
 .iG 4013 (r0) (.nu p_v.aU ah.lf<|
 .rt [1,2,21] 1 ((p_v.aU.length:Int)==0))<|
 .rt [1,2,21] 1 (false)
def ni(p_v:ah)(r0:Bool):Mo (Bool):=
 .iG 4019 (r0) (.nu p_v.aY aJ.lf<|
 .ret ⟨[.kill 0],[2,27],[],1⟩ ((p_v.aY.length:Int)==0))<|
 .ret ⟨[.kill 0],[2,27],[],1⟩ (false)
def eX(r0:Bool):Mo (Unit):=
 .rt [2] 1 ()
def agC(p_v:ah):Mo (Bool):=
 .sf Tryz.f112 0 [1,0] 0 8 1 [(1,.ptr 0 0),(2,.b_ false)] [bK p_v] 10 (o9 p_v) fun r0=>
 .sb Tryz.f112 0 [1,0] 8 5 1 [(1,.ptr 0 0),(2,.b_ false)] [bK p_v] 10 15 r0 (pq p_v r0) fun r1=>
 .sb Tryz.f112 0 [1,0] 13 6 1 [(1,.ptr 0 0),(2,.b_ false)] [bK p_v] 15 21 r1 (ng p_v r1) fun r2=>
 .sk Tryz.f112 0 [1,0] 19 6 1 (fun r_=>⟨[(2,.b_ false),(27,.b_ r_)],[.dead]⟩) ⟨[(1,.ptr 0 0),(2,.b_ false),(21,.b_ r2)],[bK p_v]⟩ (ni p_v r2) fun r3=>
 .sk Tryz.f112 0 [1,0] 25 1 1 (fun r_=>⟨[(2,.b_ r3)],[.dead]⟩) ⟨[(2,.b_ false),(27,.b_ r3)],[.dead]⟩ (eX r3) fun r4=>
 .ret (bn 1) (r3)
def Q0(p_v:ah):Option (Bool):=Mo.den (agC p_v)
theorem zK(p_v:ah):FV (Q0 p_v) 112 [.dat (ah.lf1 p_v)] .b_:=dL Tryz.func112
def QA(p_s:aI):Mo (Bool):=
 .aV 4003 (p_s.jF==0) [1,2,10] 1 (!p_s.iQ)
def QB(p_s:aI)(r0:Bool):Mo (Bool):=
 .aC 4008 (r0) [1,2,15] 1 (zK p_s.kE)
def I5(p_s:aI)(r0:Bool):Mo (Bool):=
 .aV 4013 (r0) [1,2,20] 1 (!p_s.iR)
def I7(p_s:aI)(r0:Bool):Mo (Bool):=
 .aC 4018 (r0) [1,2,25] 1 (zK p_s.kF)
def I8(p_s:aI)(r0:Bool):Mo (Bool):=
 .iG 4023 (r0) (.nu p_s.jL ah.lf<|
 .rt [1,2,31] 1 ((p_s.jL.length:Int)==0))<|
 .rt [1,2,31] 1 (false)
def I9(p_s:aI)(r0:Bool):Mo (Bool):=
 .aV 4029 (r0) [1,2,36] 1 (p_s.iU==0)
def Ja(p_s:aI)(r0:Bool):Mo (Bool):=
 .aV 4034 (r0) [1,2,41] 1 (p_s.iV==0)
def Jb(p_s:aI)(r0:Bool):Mo (Bool):=
 .iG 4039 (r0) (.nu p_s.dK lfS<|
 .rt [1,2,47] 1 ((p_s.dK.length:Int)==0))<|
 .rt [1,2,47] 1 (false)
def Jc(p_s:aI)(r0:Bool):Mo (Bool):=
 .iG 4045 (r0) (.nu p_s.dN bH.lf<|
 .rt [1,2,53] 1 ((p_s.dN.length:Int)==0))<|
 .rt [1,2,53] 1 (false)
def Jd(p_s:aI)(r0:Bool):Mo (Bool):=
 .aV 4051 (r0) [1,2,58] 1 (!p_s.jD)
def Je(p_s:aI)(r0:Bool):Mo (Bool):=
 .iG 4056 (r0) (.nu p_s.dP aI.lf<|
 .rt [1,2,64] 1 ((p_s.dP.length:Int)==0))<|
 .rt [1,2,64] 1 (false)
def Jf(p_s:aI)(r0:Bool):Mo (Bool):=
 .iG 4062 (r0) (.ret ⟨[.kill 0],[2,69],[],1⟩ (!p_s.dY))<|
 .ret ⟨[.kill 0],[2,69],[],1⟩ (false)
def abS(p_s:aI):Mo (Bool):=
 .sf Tryz.f252 0 [1,0] 0 8 1 [(1,.ptr 0 0),(2,.b_ false)] [jd p_s] 10 (QA p_s) fun r0=>
 .sb Tryz.f252 0 [1,0] 8 5 1 [(1,.ptr 0 0),(2,.b_ false)] [jd p_s] 10 15 r0 (QB p_s r0) fun r1=>
 .sb Tryz.f252 0 [1,0] 13 5 1 [(1,.ptr 0 0),(2,.b_ false)] [jd p_s] 15 20 r1 (I5 p_s r1) fun r2=>
 .sb Tryz.f252 0 [1,0] 18 5 1 [(1,.ptr 0 0),(2,.b_ false)] [jd p_s] 20 25 r2 (I7 p_s r2) fun r3=>
 .sb Tryz.f252 0 [1,0] 23 6 1 [(1,.ptr 0 0),(2,.b_ false)] [jd p_s] 25 31 r3 (I8 p_s r3) fun r4=>
 .sb Tryz.f252 0 [1,0] 29 5 1 [(1,.ptr 0 0),(2,.b_ false)] [jd p_s] 31 36 r4 (I9 p_s r4) fun r5=>
 .sb Tryz.f252 0 [1,0] 34 5 1 [(1,.ptr 0 0),(2,.b_ false)] [jd p_s] 36 41 r5 (Ja p_s r5) fun r6=>
 .sb Tryz.f252 0 [1,0] 39 6 1 [(1,.ptr 0 0),(2,.b_ false)] [jd p_s] 41 47 r6 (Jb p_s r6) fun r7=>
 .sb Tryz.f252 0 [1,0] 45 6 1 [(1,.ptr 0 0),(2,.b_ false)] [jd p_s] 47 53 r7 (Jc p_s r7) fun r8=>
 .sb Tryz.f252 0 [1,0] 51 5 1 [(1,.ptr 0 0),(2,.b_ false)] [jd p_s] 53 58 r8 (Jd p_s r8) fun r9=>
 .sb Tryz.f252 0 [1,0] 56 6 1 [(1,.ptr 0 0),(2,.b_ false)] [jd p_s] 58 64 r9 (Je p_s r9) fun r10=>
 .sk Tryz.f252 0 [1,0] 62 5 1 (fun r_=>⟨[(2,.b_ false),(69,.b_ r_)],[.dead]⟩) ⟨[(1,.ptr 0 0),(2,.b_ false),(64,.b_ r10)],[jd p_s]⟩ (Jf p_s r10) fun r11=>
 .sk Tryz.f252 0 [1,0] 67 1 1 (fun r_=>⟨[(2,.b_ r11)],[.dead]⟩) ⟨[(2,.b_ false),(69,.b_ r11)],[.dead]⟩ (eX r11) fun r12=>
 .ret (bn 1) (r11)
def Q12(p_s:aI):Option (Bool):=Mo.den (abS p_s)
theorem akA(p_s:aI):FV (Q12 p_s) 252 [.dat (aI.lf1 p_s)] .b_:=dL Tryz.func252
def QC(p_d:bY):Mo (Bool):=
 .iG 4003 (decide ((p_d.fName:ByteArray)=(⟨#[]⟩:ByteArray))) (.nu p_d.bZ aQ.lf<|
 .rt [1,2,11] 1 ((p_d.bZ.length:Int)==0))<|
 .rt [1,2,11] 1 (false)
def QD(p_d:bY)(r0:Bool):Mo (Bool):=
 .aC 4009 (r0) [1,2,16] 1 (akA p_d.aZ)
def Jg(p_d:bY)(r0:Bool):Mo (Bool):=
 .aV 4014 (r0) [1,2,21] 1 (p_d.kG==0)
def Jh(p_d:bY)(r0:Bool):Mo (Bool):=
 .iG 4019 (r0) (.ret ⟨[.kill 0],[2,26],[],1⟩ (p_d.iJ==0))<|
 .ret ⟨[.kill 0],[2,26],[],1⟩ (false)
def abT(p_d:bY):Mo (Bool):=
 .sf Tryz.f176 0 [1,0] 0 9 1 [(1,.ptr 0 0),(2,.b_ false)] [qI p_d] 11 (QC p_d) fun r0=>
 .sb Tryz.f176 0 [1,0] 9 5 1 [(1,.ptr 0 0),(2,.b_ false)] [qI p_d] 11 16 r0 (QD p_d r0) fun r1=>
 .sb Tryz.f176 0 [1,0] 14 5 1 [(1,.ptr 0 0),(2,.b_ false)] [qI p_d] 16 21 r1 (Jg p_d r1) fun r2=>
 .sk Tryz.f176 0 [1,0] 19 5 1 (fun r_=>⟨[(2,.b_ false),(26,.b_ r_)],[.dead]⟩) ⟨[(1,.ptr 0 0),(2,.b_ false),(21,.b_ r2)],[qI p_d]⟩ (Jh p_d r2) fun r3=>
 .sk Tryz.f176 0 [1,0] 24 1 1 (fun r_=>⟨[(2,.b_ r3)],[.dead]⟩) ⟨[(2,.b_ false),(26,.b_ r3)],[.dead]⟩ (eX r3) fun r4=>
 .ret (bn 1) (r3)
def Q55(p_d:bY):Option (Bool):=Mo.den (abT p_d)
theorem akB(p_d:bY):FV (Q55 p_d) 176 [.dat (bY.lf1 p_d)] .b_:=dL Tryz.func176
def rQ(p_e:aS):Mo (Bool):=
 .iG 4003 (p_e.fOp==0) (.nu p_e.cZ lfS<|
 .rt [1,2,11] 1 ((p_e.cZ.length:Int)==0))<|
 .rt [1,2,11] 1 (false)
def rU(p_e:aS)(r0:Bool):Mo (Bool):=
 .aV 4009 (r0) [1,2,16] 1 (decide ((p_e.fName:ByteArray)=(⟨#[]⟩:ByteArray)))
def pJ(p_e:aS)(r0:Bool):Mo (Bool):=
 .iG 4014 (r0) (.nu p_e.fK lfS<|
 .rt [1,2,22] 1 ((p_e.fK.length:Int)==0))<|
 .rt [1,2,22] 1 (false)
def Ji(p_e:aS)(r0:Bool):Mo (Bool):=
 .aC 4020 (r0) [1,2,27] 1 (zK p_e.fArg)
def pK(p_e:aS)(r0:Bool):Mo (Bool):=
 .aV 4025 (r0) [1,2,32] 1 (p_e.fN==0)
def pO(p_e:aS)(r0:Bool):Mo (Bool):=
 .iG 4030 (r0) (.nu p_e.bV aS.lf<|
 .ret ⟨[.kill 0],[2,38],[],1⟩ ((p_e.bV.length:Int)==0))<|
 .ret ⟨[.kill 0],[2,38],[],1⟩ (false)
def abU(p_e:aS):Mo (Bool):=
 .sf Tryz.f297 0 [1,0] 0 9 1 [(1,.ptr 0 0),(2,.b_ false)] [fP p_e] 11 (rQ p_e) fun r0=>
 .sb Tryz.f297 0 [1,0] 9 5 1 [(1,.ptr 0 0),(2,.b_ false)] [fP p_e] 11 16 r0 (rU p_e r0) fun r1=>
 .sb Tryz.f297 0 [1,0] 14 6 1 [(1,.ptr 0 0),(2,.b_ false)] [fP p_e] 16 22 r1 (pJ p_e r1) fun r2=>
 .sb Tryz.f297 0 [1,0] 20 5 1 [(1,.ptr 0 0),(2,.b_ false)] [fP p_e] 22 27 r2 (Ji p_e r2) fun r3=>
 .sb Tryz.f297 0 [1,0] 25 5 1 [(1,.ptr 0 0),(2,.b_ false)] [fP p_e] 27 32 r3 (pK p_e r3) fun r4=>
 .sk Tryz.f297 0 [1,0] 30 6 1 (fun r_=>⟨[(2,.b_ false),(38,.b_ r_)],[.dead]⟩) ⟨[(1,.ptr 0 0),(2,.b_ false),(32,.b_ r4)],[fP p_e]⟩ (pO p_e r4) fun r5=>
 .sk Tryz.f297 0 [1,0] 36 1 1 (fun r_=>⟨[(2,.b_ r5)],[.dead]⟩) ⟨[(2,.b_ false),(38,.b_ r5)],[.dead]⟩ (eX r5) fun r6=>
 .ret (bn 1) (r5)
def Q16(p_e:aS):Option (Bool):=Mo.den (abU p_e)
theorem akC(p_e:aS):FV (Q16 p_e) 297 [.dat (aS.lf1 p_e)] .b_:=dL Tryz.func297
def EI(p_p:aO):Mo (Bool):=
 .iG 4003 (p_p.fOp==0) (.nu p_p.cZ lfS<|
 .rt [1,2,11] 1 ((p_p.cZ.length:Int)==0))<|
 .rt [1,2,11] 1 (false)
def Xa(p_p:aO)(r0:Bool):Mo (Bool):=
 .aC 4009 (r0) [1,2,16] 1 (zK p_p.fArg)
def zL(p_p:aO)(r0:Bool):Mo (Bool):=
 .iG 4014 (r0) (.nu p_p.fArgs ah.lf<|
 .rt [1,2,22] 1 ((p_p.fArgs.length:Int)==0))<|
 .rt [1,2,22] 1 (false)
def zM(p_p:aO)(r0:Bool):Mo (Bool):=
 .aV 4020 (r0) [1,2,27] 1 (p_p.fN==0)
def zN(p_p:aO)(r0:Bool):Mo (Bool):=
 .aV 4025 (r0) [1,2,32] 1 (p_p.fM==0)
def zO(p_p:aO)(r0:Bool):Mo (Bool):=
 .aV 4030 (r0) [1,2,38] 1 (p_p.dH.ay==0)
def zQ(p_p:aO)(r0:Bool):Mo (Bool):=
 .iG 4036 (r0) (.nu p_p.dH.dD bM.lf<|
 .rt [1,2,45] 1 ((p_p.dH.dD.length:Int)==0))<|
 .rt [1,2,45] 1 (false)
def zT(p_p:aO)(r0:Bool):Mo (Bool):=
 .aV 4043 (r0) [1,2,51] 1 (p_p.dH.fR==0)
def QE(p_p:aO)(r0:Bool):Mo (Bool):=
 .aC 4049 (r0) [1,2,56] 1 (akC p_p.fExpr)
def zU(p_p:aO)(r0:Bool):Mo (Bool):=
 .iG 4054 (r0) (.nu p_p.bV aO.lf<|
 .ret ⟨[.kill 0],[2,62],[],1⟩ ((p_p.bV.length:Int)==0))<|
 .ret ⟨[.kill 0],[2,62],[],1⟩ (false)
def akD(p_p:aO):Mo (Bool):=
 .sf Tryz.f253 0 [1,0] 0 9 1 [(1,.ptr 0 0),(2,.b_ false)] [eG p_p] 11 (EI p_p) fun r0=>
 .sb Tryz.f253 0 [1,0] 9 5 1 [(1,.ptr 0 0),(2,.b_ false)] [eG p_p] 11 16 r0 (Xa p_p r0) fun r1=>
 .sb Tryz.f253 0 [1,0] 14 6 1 [(1,.ptr 0 0),(2,.b_ false)] [eG p_p] 16 22 r1 (zL p_p r1) fun r2=>
 .sb Tryz.f253 0 [1,0] 20 5 1 [(1,.ptr 0 0),(2,.b_ false)] [eG p_p] 22 27 r2 (zM p_p r2) fun r3=>
 .sb Tryz.f253 0 [1,0] 25 5 1 [(1,.ptr 0 0),(2,.b_ false)] [eG p_p] 27 32 r3 (zN p_p r3) fun r4=>
 .sb Tryz.f253 0 [1,0] 30 6 1 [(1,.ptr 0 0),(2,.b_ false)] [eG p_p] 32 38 r4 (zO p_p r4) fun r5=>
 .sb Tryz.f253 0 [1,0] 36 7 1 [(1,.ptr 0 0),(2,.b_ false)] [eG p_p] 38 45 r5 (zQ p_p r5) fun r6=>
 .sb Tryz.f253 0 [1,0] 43 6 1 [(1,.ptr 0 0),(2,.b_ false)] [eG p_p] 45 51 r6 (zT p_p r6) fun r7=>
 .sb Tryz.f253 0 [1,0] 49 5 1 [(1,.ptr 0 0),(2,.b_ false)] [eG p_p] 51 56 r7 (QE p_p r7) fun r8=>
 .sk Tryz.f253 0 [1,0] 54 6 1 (fun r_=>⟨[(2,.b_ false),(62,.b_ r_)],[.dead]⟩) ⟨[(1,.ptr 0 0),(2,.b_ false),(56,.b_ r8)],[eG p_p]⟩ (zU p_p r8) fun r9=>
 .sk Tryz.f253 0 [1,0] 60 1 1 (fun r_=>⟨[(2,.b_ r9)],[.dead]⟩) ⟨[(2,.b_ false),(62,.b_ r9)],[.dead]⟩ (eX r9) fun r10=>
 .ret (bn 1) (r9)
def Q8(p_p:aO):Option (Bool):=Mo.den (akD p_p)
theorem amx(p_p:aO):FV (Q8 p_p) 253 [.dat (aO.lf1 p_p)] .b_:=dL Tryz.func253
def QF(p_x:aQ):Mo (Bool):=
 .aV 4003 (decide ((p_x.fName:ByteArray)=(⟨#[]⟩:ByteArray))) [1,2,10] 1 (p_x.ay==0)
def QG(p_x:aQ)(r0:Bool):Mo (Bool):=
 .iG 4008 (r0) (.nu p_x.fQ bf.lf<|
 .rt [1,2,16] 1 ((p_x.fQ.length:Int)==0))<|
 .rt [1,2,16] 1 (false)
def Jj(p_x:aQ)(r0:Bool):Mo (Bool):=
 .aV 4014 (r0) [1,2,21] 1 (!p_x.dY)
def Jk(p_x:aQ)(r0:Bool):Mo (Bool):=
 .aV 4019 (r0) [1,2,26] 1 (!p_x.jl)
def Jl(p_x:aQ)(r0:Bool):Mo (Bool):=
 .aV 4024 (r0) [1,2,31] 1 (!p_x.gB)
def Jm(p_x:aQ)(r0:Bool):Mo (Bool):=
 .iG 4029 (r0) (.cl (amx p_x.bF) fun r1 _=>
 .ret ⟨[.kill 0],[2,36],[],1⟩ (r1))<|
 .ret ⟨[.kill 0],[2,36],[],1⟩ (false)
def abV(p_x:aQ):Mo (Bool):=
 .sf Tryz.f177 0 [1,0] 0 8 1 [(1,.ptr 0 0),(2,.b_ false)] [tN p_x] 10 (QF p_x) fun r0=>
 .sb Tryz.f177 0 [1,0] 8 6 1 [(1,.ptr 0 0),(2,.b_ false)] [tN p_x] 10 16 r0 (QG p_x r0) fun r1=>
 .sb Tryz.f177 0 [1,0] 14 5 1 [(1,.ptr 0 0),(2,.b_ false)] [tN p_x] 16 21 r1 (Jj p_x r1) fun r2=>
 .sb Tryz.f177 0 [1,0] 19 5 1 [(1,.ptr 0 0),(2,.b_ false)] [tN p_x] 21 26 r2 (Jk p_x r2) fun r3=>
 .sb Tryz.f177 0 [1,0] 24 5 1 [(1,.ptr 0 0),(2,.b_ false)] [tN p_x] 26 31 r3 (Jl p_x r3) fun r4=>
 .sk Tryz.f177 0 [1,0] 29 5 1 (fun r_=>⟨[(2,.b_ false),(36,.b_ r_)],[.dead]⟩) ⟨[(1,.ptr 0 0),(2,.b_ false),(31,.b_ r4)],[tN p_x]⟩ (Jm p_x r4) fun r5=>
 .sk Tryz.f177 0 [1,0] 34 1 1 (fun r_=>⟨[(2,.b_ r5)],[.dead]⟩) ⟨[(2,.b_ false),(36,.b_ r5)],[.dead]⟩ (eX r5) fun r6=>
 .ret (bn 1) (r5)
def Q30(p_x:aQ):Option (Bool):=Mo.den (abV p_x)
theorem akE(p_x:aQ):FV (Q30 p_x) 177 [.dat (aQ.lf1 p_x)] .b_:=dL Tryz.func177
def QH(p_w:au):Mo (Bool):=
 .aV 4003 (p_w.ay==0) [1,2,10] 1 (decide ((p_w.fE:ByteArray)=(⟨#[]⟩:ByteArray)))
def QI(p_w:au)(r0:Bool):Mo (Bool):=
 .aC 4008 (r0) [1,2,15] 1 (zK p_w.ig)
def Jo(p_w:au)(r0:Bool):Mo (Bool):=
 .aC 4013 (r0) [1,2,20] 1 (zK p_w.aY)
def Jp(p_w:au)(r0:Bool):Mo (Bool):=
 .aC 4018 (r0) [1,2,25] 1 (zK p_w.dF)
def Jq(p_w:au)(r0:Bool):Mo (Bool):=
 .aC 4023 (r0) [1,2,30] 1 (akB p_w.dB)
def Jr(p_w:au)(r0:Bool):Mo (Bool):=
 .aC 4028 (r0) [1,2,35] 1 (akE p_w.aX)
def Js(p_w:au)(r0:Bool):Mo (Bool):=
 .aV 4033 (r0) [1,2,40] 1 (decide ((p_w.kX:ByteArray)=(⟨#[]⟩:ByteArray)))
def Jt(p_w:au)(r0:Bool):Mo (Bool):=
 .aV 4038 (r0) [1,2,45] 1 (p_w.dO==0)
def Ju(p_w:au)(r0:Bool):Mo (Bool):=
 .iG 4043 (r0) (.nu p_w.bQ au.lf<|
 .rt [1,2,51] 1 ((p_w.bQ.length:Int)==0))<|
 .rt [1,2,51] 1 (false)
def Jv(p_w:au)(r0:Bool):Mo (Bool):=
 .iG 4049 (r0) (.nu p_w.dI lfI<|
 .rt [1,2,57] 1 ((p_w.dI.length:Int)==0))<|
 .rt [1,2,57] 1 (false)
def Jw(p_w:au)(r0:Bool):Mo (Bool):=
 .iG 4055 (r0) (.ret ⟨[.kill 0],[2,62],[],1⟩ (!p_w.fB))<|
 .ret ⟨[.kill 0],[2,62],[],1⟩ (false)
def abW(p_w:au):Mo (Bool):=
 .sf Tryz.f109 0 [1,0] 0 8 1 [(1,.ptr 0 0),(2,.b_ false)] [fA p_w] 10 (QH p_w) fun r0=>
 .sb Tryz.f109 0 [1,0] 8 5 1 [(1,.ptr 0 0),(2,.b_ false)] [fA p_w] 10 15 r0 (QI p_w r0) fun r1=>
 .sb Tryz.f109 0 [1,0] 13 5 1 [(1,.ptr 0 0),(2,.b_ false)] [fA p_w] 15 20 r1 (Jo p_w r1) fun r2=>
 .sb Tryz.f109 0 [1,0] 18 5 1 [(1,.ptr 0 0),(2,.b_ false)] [fA p_w] 20 25 r2 (Jp p_w r2) fun r3=>
 .sb Tryz.f109 0 [1,0] 23 5 1 [(1,.ptr 0 0),(2,.b_ false)] [fA p_w] 25 30 r3 (Jq p_w r3) fun r4=>
 .sb Tryz.f109 0 [1,0] 28 5 1 [(1,.ptr 0 0),(2,.b_ false)] [fA p_w] 30 35 r4 (Jr p_w r4) fun r5=>
 .sb Tryz.f109 0 [1,0] 33 5 1 [(1,.ptr 0 0),(2,.b_ false)] [fA p_w] 35 40 r5 (Js p_w r5) fun r6=>
 .sb Tryz.f109 0 [1,0] 38 5 1 [(1,.ptr 0 0),(2,.b_ false)] [fA p_w] 40 45 r6 (Jt p_w r6) fun r7=>
 .sb Tryz.f109 0 [1,0] 43 6 1 [(1,.ptr 0 0),(2,.b_ false)] [fA p_w] 45 51 r7 (Ju p_w r7) fun r8=>
 .sb Tryz.f109 0 [1,0] 49 6 1 [(1,.ptr 0 0),(2,.b_ false)] [fA p_w] 51 57 r8 (Jv p_w r8) fun r9=>
 .sk Tryz.f109 0 [1,0] 55 5 1 (fun r_=>⟨[(2,.b_ false),(62,.b_ r_)],[.dead]⟩) ⟨[(1,.ptr 0 0),(2,.b_ false),(57,.b_ r9)],[fA p_w]⟩ (Jw p_w r9) fun r10=>
 .sk Tryz.f109 0 [1,0] 60 1 1 (fun r_=>⟨[(2,.b_ r10)],[.dead]⟩) ⟨[(2,.b_ false),(62,.b_ r10)],[.dead]⟩ (eX r10) fun r11=>
 .ret (bn 1) (r10)
def Q17(p_w:au):Option (Bool):=Mo.den (abW p_w)
theorem akF(p_w:au):FV (Q17 p_w) 109 [.dat (au.lf1 p_w)] .b_:=dL Tryz.func109
def FY(p_w:au)(r0:aN):Mo (au):=
 .iB (r0.nR) (.rt [1,3] 2 (au.MJ (au.DJ p_w 0) ⟨#[]⟩))<|
 .rt [1,3] 2 (au.DJ p_w 0)
def FZ(r0:aN)(r1:au):Mo (au):=
 .iB (r0.yw) (.ret ⟨[.norm 0],[1,3],[],2⟩ (au.MP (au.MK (au.af7 r1 (ah.mk 0 0 ⟨#[]⟩ [] [])) (ah.mk 0 0 ⟨#[]⟩ [] [])) false))<|
 .rt [1,3] 2 (r1)
def Cb(r0:aN)(r1:au):Mo (au):=
 .iB (r0.Ef) (.ret ⟨[.norm 0],[1,3],[],2⟩ (au.af8 r1 (ah.mk 0 0 ⟨#[]⟩ [] [])))<|
 .rt [1,3] 2 (r1)
def Cc(r0:aN)(r1:au):Mo (au):=
 .iB (r0.Eh) (.ret ⟨[.norm 0],[1,3],[],2⟩ (au.akg r1 (bY.mk ⟨#[]⟩ [] aI.z 0 0)))<|
 .rt [1,3] 2 (r1)
def Ce(r0:aN)(r1:au):Mo (au):=
 .iB (r0.oL) (.ret ⟨[.norm 0],[1,3],[],2⟩ (au.ML r1 aQ.z))<|
 .rt [1,3] 2 (r1)
def Ci(r0:aN)(r1:au):Mo (au):=
 .iB (r0.iF) (.rt [1,3] 2 (au.ML r1 (aQ.abn r1.aX ⟨#[]⟩)))<|
 .rt [1,3] 2 (r1)
def Cj(r0:aN)(r1:au):Mo (au):=
 .iB (r0.BL) (.rt [1,3] 2 (au.akh r1 ⟨#[]⟩))<|
 .rt [1,3] 2 (r1)
def Cm(r0:aN)(r1:au):Mo (au):=
 .iB (r0.nS) (.rt [1,3] 2 (au.Um r1 0))<|
 .rt [1,3] 2 (r1)
def CB(r0:aN)(r1:au):Mo (au):=
 .iB (r0.lN) (.ret ⟨[.norm 0],[1,3],[],2⟩ (au.MN r1 []))<|
 .rt [1,3] 2 (r1)
def CG(r0:aN)(r1:au):Mo (au):=
 .iB (r0.lQ) (.ret ⟨[.norm 0],[1],[],2⟩ (au.MO r1 []))<|
 .rt [1] 2 (r1)
def abX(p_w:au):Mo (Bool):=
 .cl (W9 p_w.ay) fun r0 _=>
 .jk Tryz.f57 0 [1,1,1,0,1] 1 (fun r_=>⟨[(1,.ptr 0 0),(3,.ptr 1 0)],[fA r_,.box 104 (.agg ((aN.lf1 r0).map AV.lf))]⟩) ⟨[(1,.ptr 0 0),(3,.ptr 1 0),(9,.b_ r0.nR)],[.box 49 (.dat (au.lf1 (au.DJ p_w 0))),.box 104 (.agg ((aN.lf1 r0).map AV.lf))]⟩ (FY p_w r0) fun r1=>
 .jk Tryz.f57 0 [1,1,1,1,0,1] 1 (fun r_=>⟨[(1,.ptr 0 0),(3,.ptr 1 0)],[fA r_,.box 104 (.agg ((aN.lf1 r0).map AV.lf))]⟩) ⟨[(1,.ptr 0 0),(3,.ptr 1 0),(12,.b_ r0.yw)],[fA r1,.box 104 (.agg ((aN.lf1 r0).map AV.lf))]⟩ (FZ r0 r1) fun r2=>
 .jk Tryz.f57 0 [1,1,1,1,1,0,1] 1 (fun r_=>⟨[(1,.ptr 0 0),(3,.ptr 1 0)],[fA r_,.box 104 (.agg ((aN.lf1 r0).map AV.lf))]⟩) ⟨[(1,.ptr 0 0),(3,.ptr 1 0),(19,.b_ r0.Ef)],[fA r2,.box 104 (.agg ((aN.lf1 r0).map AV.lf))]⟩ (Cb r0 r2) fun r3=>
 .jk Tryz.f57 0 [1,1,1,1,1,1,0,1] 1 (fun r_=>⟨[(1,.ptr 0 0),(3,.ptr 1 0)],[fA r_,.box 104 (.agg ((aN.lf1 r0).map AV.lf))]⟩) ⟨[(1,.ptr 0 0),(3,.ptr 1 0),(23,.b_ r0.Eh)],[fA r3,.box 104 (.agg ((aN.lf1 r0).map AV.lf))]⟩ (Cc r0 r3) fun r4=>
 .jk Tryz.f57 0 [1,1,1,1,1,1,1,0,1] 1 (fun r_=>⟨[(1,.ptr 0 0),(3,.ptr 1 0)],[fA r_,.box 104 (.agg ((aN.lf1 r0).map AV.lf))]⟩) ⟨[(1,.ptr 0 0),(3,.ptr 1 0),(27,.b_ r0.oL)],[fA r4,.box 104 (.agg ((aN.lf1 r0).map AV.lf))]⟩ (Ce r0 r4) fun r5=>
 .jk Tryz.f57 0 [1,1,1,1,1,1,1,1,0,1] 1 (fun r_=>⟨[(1,.ptr 0 0),(3,.ptr 1 0)],[fA r_,.box 104 (.agg ((aN.lf1 r0).map AV.lf))]⟩) ⟨[(1,.ptr 0 0),(3,.ptr 1 0),(31,.b_ r0.iF)],[fA r5,.box 104 (.agg ((aN.lf1 r0).map AV.lf))]⟩ (Ci r0 r5) fun r6=>
 .jk Tryz.f57 0 [1,1,1,1,1,1,1,1,1,0,1] 1 (fun r_=>⟨[(1,.ptr 0 0),(3,.ptr 1 0)],[fA r_,.box 104 (.agg ((aN.lf1 r0).map AV.lf))]⟩) ⟨[(1,.ptr 0 0),(3,.ptr 1 0),(35,.b_ r0.BL)],[fA r6,.box 104 (.agg ((aN.lf1 r0).map AV.lf))]⟩ (Cj r0 r6) fun r7=>
 .jk Tryz.f57 0 [1,1,1,1,1,1,1,1,1,1,0,1] 1 (fun r_=>⟨[(1,.ptr 0 0),(3,.ptr 1 0)],[fA r_,.box 104 (.agg ((aN.lf1 r0).map AV.lf))]⟩) ⟨[(1,.ptr 0 0),(3,.ptr 1 0),(38,.b_ r0.nS)],[fA r7,.box 104 (.agg ((aN.lf1 r0).map AV.lf))]⟩ (Cm r0 r7) fun r8=>
 .jk Tryz.f57 0 [1,1,1,1,1,1,1,1,1,1,1,0,1] 1 (fun r_=>⟨[(1,.ptr 0 0),(3,.ptr 1 0)],[fA r_,.box 104 (.agg ((aN.lf1 r0).map AV.lf))]⟩) ⟨[(1,.ptr 0 0),(3,.ptr 1 0),(41,.b_ r0.lN)],[fA r8,.box 104 (.agg ((aN.lf1 r0).map AV.lf))]⟩ (CB r0 r8) fun r9=>
 .jy [.kill 1] Tryz.f57 0 [1,1,1,1,1,1,1,1,1,1,1,1,0,1] 1 (.normal) (fun r_=>⟨[(1,.ptr 0 0)],[fA r_,.dead]⟩) ⟨[(1,.ptr 0 0),(44,.b_ r0.lQ)],[fA r9,.dead]⟩ (CG r0 r9) fun r10=>
 .cl (akF r10) fun r11 _=>
 .ret (bn 1) (r11)
def Q11(p_w:au):Option (Bool):=Mo.den (abX p_w)
theorem akG(p_w:au):FV (Q11 p_w) 57 [.dat (au.lf1 p_w)] .b_:=dL Tryz.func57
def YS(p_w:au):Mo (Int):=
 .iB (p_w.ay==12) (.rt [1,3] 1 (0))<|
 .rt [1,3] 1 (1)
def abY(p_w:au):Mo (Bool):=
 .jk Tryz.f58 0 [1,1,0,1] 1 (fun r_=>⟨[(1,.ptr 0 0),(3,.i_ r_)],[fA p_w]⟩) ⟨[(1,.ptr 0 0),(3,.i_ 1),(6,.lf (.bool (p_w.ay==12)))],[fA p_w]⟩ (YS p_w) fun r0=>
 .iG 10004 (decide ((r0:Int)≤p_w.dO)) (.ret (bn 1) (decide ((p_w.dO:Int)≤1099511627776)))<|
 .ret (bn 1) (false)
def amy(p_w:au):Option (Bool):=Mo.den (abY p_w)
theorem agD(p_w:au):FV (amy p_w) 58 [.dat (au.lf1 p_w)] .b_:=dL Tryz.func58
def QJ(p_l:List Int)(v0:Int)(x0:Int):Mo (Bool):=
 .oV 10002 (decide ((x0:Int)<0)) [0,3,4,5,6,7,17] 0 (decide ((8:Int)≤x0))
def QK(p_l:List Int)(r0:Bool)(v0:Int)(x0:Int):Mo (Bool):=
 .iG 10006 (r0) (.rt [0,5,6,7,30] 0 (true))<|
 .iG 10009 (decide ((0:Int)<v0)) (.gx lI_ p_l (IntKind.wrap .i64 (v0-1)) fun x1 _=>
 .rt [0,5,6,7,30] 0 (decide ((x0:Int)≤x1)))<|
 .rt [0,5,6,7,30] 0 (false)
def Jy(p_l:List Int):(Int)→Mo ((Int)⊕(Unit⊕Unit)):=fun(v0)=>
 .iB (decide ((v0:Int)<(p_l.length:Int))) (.gx lI_ p_l v0 fun x0 _=>
 .sf Tryz.f59 0 [1,0,1,0,0,1,1,0,0,1,0] 0 6 4 [(0,.lf (.rows 1 (p_l.map lfI))),(3,.i_ v0),(4,.i_ x0),(5,.lf (.rows 1 (p_l.map lfI))),(6,.i_ (p_l.length:Int)),(7,.i_ v0)] [] 17 (QJ p_l v0 x0) fun r0=>
 .sk Tryz.f59 0 [1,0,1,0,0,1,1,0,0,1,0] 6 13 4 (fun r_=>⟨[(0,.lf (.rows 1 (p_l.map lfI))),(5,.lf (.rows 1 (p_l.map lfI))),(6,.i_ (p_l.length:Int)),(7,.i_ v0),(30,.b_ r_)],[]⟩) ⟨[(0,.lf (.rows 1 (p_l.map lfI))),(3,.i_ v0),(4,.i_ x0),(5,.lf (.rows 1 (p_l.map lfI))),(6,.i_ (p_l.length:Int)),(7,.i_ v0),(17,.b_ r0)],[]⟩ (QK p_l r0 v0 x0) fun r1=>
 .iB (r1) (.rt [2] 0 (.inr (.inl ())))<|
 .rt [0,5,6,7] 0 (.inl (IntKind.wrap .i64 (v0+1))))<|
 .rt [0] 0 (.inr (.inr (())))
def aje(p_l:List Int):Mo (Bool):=
 .nu p_l lfI<|
 .l2 Tryz.f59 0 [1,0,1,0] 0 (fun(v0)=>⟨[(0,.lf (.rows 1 (p_l.map lfI))),(5,.lf (.rows 1 (p_l.map lfI))),(6,.i_ (p_l.length:Int)),(7,.i_ v0)],[]⟩) .ret (fun _=>⟨[(2,.b_ false)],[]⟩) (.exit 0) (fun _=>⟨[(0,.lf (.rows 1 (p_l.map lfI)))],[]⟩) (Jy p_l) (0) (fun o0=>
 .ret (bn 1) (false)) fun o1=>
 .nu p_l lfI<|
 .ret (bn 1) (decide ((0:Int)<(p_l.length:Int)))
def Q75(p_l:List Int):Option (Bool):=Mo.den (aje p_l)
theorem akH(p_l:List Int):FV (Q75 p_l) 59 [.lf (.rows 1 (p_l.map lfI))] .b_:=dL Tryz.func59
abbrev UG(m:ah→Int→Option (Int)):Prop:=∀p_v p_most,FV (m p_v p_most) 274 [.dat (ah.lf1 p_v),.i_ p_most] .i_
abbrev abZ(m:ah→Int→Int→Option (Int×Int)):Prop:=∀p_v p_b0 p_b1,FH (m p_v p_b0 p_b1) 323 [.dat (ah.lf1 p_v),.clo 324 [.ptr 0 0,.ptr 1 0]] [.box 3 (.dat [(.int .i64 p_b0)]),.box 3 (.dat [(.int .i64 p_b1)])] (fun _=>.tup []) (fun r=>[.box 3 (.dat [(.int .i64 r.1)]),.box 3 (.dat [(.int .i64 r.2)])])
abbrev ab1(m:ah→Int→Int→Option (Bool×Int×Int)):Prop:=∀p_p p_b0 p_b1,FH (m p_p p_b0 p_b1) 324 [.dat (ah.lf1 p_p),.ptr 0 0,.ptr 1 0] [.box 3 (.dat [(.int .i64 p_b0)]),.box 3 (.dat [(.int .i64 p_b1)])] (fun r=>.b_ r.1) (fun r=>[.box 3 (.dat [(.int .i64 r.2.1)]),.box 3 (.dat [(.int .i64 r.2.2)])])
structure RB2 where
 m1:(p_v:ah)→(p_most:Int)→Option (Int)
 ok1:UG m1
 m2:(p_v:ah)→(p_b0:Int)→(p_b1:Int)→Option (Int×Int)
 ok2:abZ m2
 m3:(p_p:ah)→(p_b0:Int)→(p_b1:Int)→Option (Bool×Int×Int)
 ok3:ab1 m3
def Nq(R_:RB2)(p_v:ah)(p_most:Int):Mo (Int):=
 .iB (1==p_most) (.ret (bn 1) (1))<|
 .cH [2,1] (R_.ok2 p_v 1 p_most) fun r0 _=>
 .ret (bn 1) (r0.1)
theorem ab2(R_:RB2):UG fun p_v p_most=>Mo.den (Nq R_ p_v p_most):=fun _ _=>dL Tryz.func274
def zV(R_:RB2)(p_v:ah):(Int×Int×Int)→Mo ((Int×Int×Int)⊕(Int×Int)⊕(Int×Int)):=fun(v0,v1,v2)=>
 .iB (decide ((v0:Int)<(p_v.aU.length:Int))) (.gx ah.aW p_v.aU v0 fun x0 _=>
 .say [.at_ 14 2,.tod 20] ok0<|
 .cH [0,1] (R_.ok3 x0 v1 v2) fun r0 _=>
 .iB (!r0.1) (.rt [] 3 (.inr (.inl (r0.2.1,r0.2.2))))<|
 .rt [1,13,14,15] 3 (.inl (IntKind.wrap .i64 (v0+1),r0.2.1,r0.2.2)))<|
 .rt [] 3 (.inr (.inr ((v1,v2))))
def ab3(R_:RB2)(p_v:ah)(v0:Int)(v1:Int)(v2:Int):Option ((Int×Int)⊕(Int×Int)):=dM (fun v_=>(zV R_ p_v v_).den) FU (v0,v1,v2)
def zW(R_:RB2)(p_v:ah):(Int×Int×Int)→Mo ((Int×Int×Int)⊕(Int×Int)⊕(Int×Int)):=fun(v0,v1,v2)=>
 .iB (decide ((v0:Int)<(p_v.aY.length:Int))) (.gx aJ.aW p_v.aY v0 fun x0 _=>
 .say [.at_ 26 3,.tod 35] ok0<|
 .cH [0,1] (R_.ok3 x0.fValue v1 v2) fun r0 _=>
 .iB (!r0.1) (.rt [] 3 (.inr (.inl (r0.2.1,r0.2.2))))<|
 .rt [1,27,28,29] 3 (.inl (IntKind.wrap .i64 (v0+1),r0.2.1,r0.2.2)))<|
 .rt [] 3 (.inr (.inr ((v1,v2))))
def ab4(R_:RB2)(p_v:ah)(v0:Int)(v1:Int)(v2:Int):Option ((Int×Int)⊕(Int×Int)):=dM (fun v_=>(zW R_ p_v v_).den) FU (v0,v1,v2)
def QL(R_:RB2)(p_v:ah)(p_b0:Int)(p_b1:Int):Mo (Int×Int):=
 .iB (p_v.ay==6) (.nu p_v.aU ah.lf<|
 .l2m [.kill 2] Tryz.f323 2 [1,1,0,1,0,1,0] 0 (fun(v0,v1,v2)=>⟨[(1,.clo 324 [.ptr 0 0,.ptr 1 0]),(13,.lf (.rows 5 (p_v.aU.map ah.lf))),(14,.i_ (p_v.aU.length:Int)),(15,.i_ v0)],[.box 3 (.dat [(.int .i64 v1)]),.box 3 (.dat [(.int .i64 v2)]),.dead]⟩) .ret (fun o_=>⟨[],[.box 3 (.dat [(.int .i64 o_.1)]),.box 3 (.dat [(.int .i64 o_.2)]),.dead]⟩) (.exit 1) (fun o_=>⟨[],[.box 3 (.dat [(.int .i64 o_.1)]),.box 3 (.dat [(.int .i64 o_.2)]),.dead]⟩) (ab3 R_ p_v 0 p_b0 p_b1) (zV R_ p_v) (0,p_b0,p_b1) (fun o0=>
 .rt [] 2 (o0.1,o0.2)) fun o1=>
 .rt [] 2 (o1.1,o1.2))<|
 .iB (p_v.ay==5) (.nu p_v.aY aJ.lf<|
 .l2m [.kill 2] Tryz.f323 2 [1,1,0,1,1,1,0,1,0] 0 (fun(v3,v4,v5)=>⟨[(1,.clo 324 [.ptr 0 0,.ptr 1 0]),(27,.lf (.rows 6 (p_v.aY.map aJ.lf))),(28,.i_ (p_v.aY.length:Int)),(29,.i_ v3)],[.box 3 (.dat [(.int .i64 v4)]),.box 3 (.dat [(.int .i64 v5)]),.dead]⟩) .ret (fun o_=>⟨[],[.box 3 (.dat [(.int .i64 o_.1)]),.box 3 (.dat [(.int .i64 o_.2)]),.dead]⟩) (.exit 3) (fun o_=>⟨[],[.box 3 (.dat [(.int .i64 o_.1)]),.box 3 (.dat [(.int .i64 o_.2)]),.dead]⟩) (ab4 R_ p_v 0 p_b0 p_b1) (zW R_ p_v) (0,p_b0,p_b1) (fun o2=>
 .rt [] 2 (o2.1,o2.2)) fun o3=>
 .rt [] 2 (o3.1,o3.2))<|
 .ret ⟨[.kill 2],[],[],2⟩ (p_b0,p_b1)
theorem agE(R_:RB2):abZ fun p_v p_b0 p_b1=>Mo.den (QL R_ p_v p_b0 p_b1):=fun _ _ _=>dQ Tryz.func323
def Nr(R_:RB2)(p_p:ah)(p_b0:Int)(p_b1:Int):Mo (Bool×Int×Int):=
 .say [.order [(true,0),(true,1),(true,2),(true,3),(true,4),(false,5),(true,6),(false,7)] (some 7) []] ok0<|
 .cl (R_.ok1 p_p (IntKind.wrap .i64 (p_b1-p_b0))) fun r0 _=>
 .ret ⟨[.kill 2],[0],[],2⟩ (decide ((IntKind.wrap .i64 (p_b0+r0):Int)<p_b1),IntKind.wrap .i64 (p_b0+r0),p_b1)
theorem ab5(R_:RB2):ab1 fun p_p p_b0 p_b1=>Mo.den (Nr R_ p_p p_b0 p_b1):=fun _ _ _=>dQ Tryz.func324
def qK:Nat→RB2
 |0=>{ m1:=fun p_v p_most=>none,ok1:=fun _ _ _ h=>(by cases h),m2:=fun p_v p_b0 p_b1=>none,ok2:=fun _ _ _ _ h=>(by cases h),m3:=fun p_p p_b0 p_b1=>none,ok3:=fun _ _ _ _ h=>(by cases h) }
 |n_+1=>{ m1:=fun p_v p_most=>Mo.den (Nq (qK n_) p_v p_most),ok1:=ab2 (qK n_),m2:=fun p_v p_b0 p_b1=>Mo.den (QL (qK n_) p_v p_b0 p_b1),ok2:=agE (qK n_),m3:=fun p_p p_b0 p_b1=>Mo.den (Nr (qK n_) p_p p_b0 p_b1),ok3:=ab5 (qK n_) }
def amA(p_v:ah)(p_most:Int):Option (Int):=(qK FU).m1 p_v p_most
theorem agF:UG amA:=(qK FU).ok1
def ab6(p_v:ah):Mo (Int):=
 .cl (agF p_v 1025) fun r0 _=>
 .ret (bn 1) (r0)
def akI(p_v:ah):Option (Int):=Mo.den (ab6 p_v)
theorem agG(p_v:ah):FV (akI p_v) 203 [.dat (ah.lf1 p_v)] .i_:=dL Tryz.func203
abbrev UH(m:ah→Int→Option (Int)):Prop:=∀p_v p_most,FV (m p_v p_most) 275 [.dat (ah.lf1 p_v),.i_ p_most] .i_
abbrev ab7(m:ah→Int→Int→Option (Int×Int)):Prop:=∀p_v p_b0 p_b1,FH (m p_v p_b0 p_b1) 323 [.dat (ah.lf1 p_v),.clo 325 [.ptr 0 0,.ptr 1 0]] [.box 3 (.dat [(.int .i64 p_b0)]),.box 3 (.dat [(.int .i64 p_b1)])] (fun _=>.tup []) (fun r=>[.box 3 (.dat [(.int .i64 r.1)]),.box 3 (.dat [(.int .i64 r.2)])])
abbrev ab8(m:ah→Int→Int→Option (Bool×Int×Int)):Prop:=∀p_p p_b0 p_b1,FH (m p_p p_b0 p_b1) 325 [.dat (ah.lf1 p_p),.ptr 0 0,.ptr 1 0] [.box 3 (.dat [(.int .i64 p_b0)]),.box 3 (.dat [(.int .i64 p_b1)])] (fun r=>.b_ r.1) (fun r=>[.box 3 (.dat [(.int .i64 r.2.1)]),.box 3 (.dat [(.int .i64 r.2.2)])])
structure RB3 where
 m1:(p_v:ah)→(p_most:Int)→Option (Int)
 ok1:UH m1
 m2:(p_v:ah)→(p_b0:Int)→(p_b1:Int)→Option (Int×Int)
 ok2:ab7 m2
 m3:(p_p:ah)→(p_b0:Int)→(p_b1:Int)→Option (Bool×Int×Int)
 ok3:ab8 m3
def Ns(R_:RB3)(p_v:ah)(p_most:Int):Mo (Int):=
 .iB (p_most==1) (.ret (bn 1) (1))<|
 .cH [2,1] (R_.ok2 p_v 0 p_most) fun r0 _=>
 .ret (bn 1) (IntKind.wrap .i64 (1+r0.1))
theorem ab9(R_:RB3):UH fun p_v p_most=>Mo.den (Ns R_ p_v p_most):=fun _ _=>dL Tryz.func275
def zX(R_:RB3)(p_v:ah):(Int×Int×Int)→Mo ((Int×Int×Int)⊕(Int×Int)⊕(Int×Int)):=fun(v0,v1,v2)=>
 .iB (decide ((v0:Int)<(p_v.aU.length:Int))) (.gx ah.aW p_v.aU v0 fun x0 _=>
 .say [.at_ 14 2,.tod 20] ok0<|
 .cH [0,1] (R_.ok3 x0 v1 v2) fun r0 _=>
 .iB (!r0.1) (.rt [] 3 (.inr (.inl (r0.2.1,r0.2.2))))<|
 .rt [1,13,14,15] 3 (.inl (IntKind.wrap .i64 (v0+1),r0.2.1,r0.2.2)))<|
 .rt [] 3 (.inr (.inr ((v1,v2))))
def acd(R_:RB3)(p_v:ah)(v0:Int)(v1:Int)(v2:Int):Option ((Int×Int)⊕(Int×Int)):=dM (fun v_=>(zX R_ p_v v_).den) FU (v0,v1,v2)
def zY(R_:RB3)(p_v:ah):(Int×Int×Int)→Mo ((Int×Int×Int)⊕(Int×Int)⊕(Int×Int)):=fun(v0,v1,v2)=>
 .iB (decide ((v0:Int)<(p_v.aY.length:Int))) (.gx aJ.aW p_v.aY v0 fun x0 _=>
 .say [.at_ 26 3,.tod 35] ok0<|
 .cH [0,1] (R_.ok3 x0.fValue v1 v2) fun r0 _=>
 .iB (!r0.1) (.rt [] 3 (.inr (.inl (r0.2.1,r0.2.2))))<|
 .rt [1,27,28,29] 3 (.inl (IntKind.wrap .i64 (v0+1),r0.2.1,r0.2.2)))<|
 .rt [] 3 (.inr (.inr ((v1,v2))))
def ace(R_:RB3)(p_v:ah)(v0:Int)(v1:Int)(v2:Int):Option ((Int×Int)⊕(Int×Int)):=dM (fun v_=>(zY R_ p_v v_).den) FU (v0,v1,v2)
def QM(R_:RB3)(p_v:ah)(p_b0:Int)(p_b1:Int):Mo (Int×Int):=
 .iB (p_v.ay==6) (.nu p_v.aU ah.lf<|
 .l2m [.kill 2] Tryz.f323 2 [1,1,0,1,0,1,0] 0 (fun(v0,v1,v2)=>⟨[(1,.clo 325 [.ptr 0 0,.ptr 1 0]),(13,.lf (.rows 5 (p_v.aU.map ah.lf))),(14,.i_ (p_v.aU.length:Int)),(15,.i_ v0)],[.box 3 (.dat [(.int .i64 v1)]),.box 3 (.dat [(.int .i64 v2)]),.dead]⟩) .ret (fun o_=>⟨[],[.box 3 (.dat [(.int .i64 o_.1)]),.box 3 (.dat [(.int .i64 o_.2)]),.dead]⟩) (.exit 1) (fun o_=>⟨[],[.box 3 (.dat [(.int .i64 o_.1)]),.box 3 (.dat [(.int .i64 o_.2)]),.dead]⟩) (acd R_ p_v 0 p_b0 p_b1) (zX R_ p_v) (0,p_b0,p_b1) (fun o0=>
 .rt [] 2 (o0.1,o0.2)) fun o1=>
 .rt [] 2 (o1.1,o1.2))<|
 .iB (p_v.ay==5) (.nu p_v.aY aJ.lf<|
 .l2m [.kill 2] Tryz.f323 2 [1,1,0,1,1,1,0,1,0] 0 (fun(v3,v4,v5)=>⟨[(1,.clo 325 [.ptr 0 0,.ptr 1 0]),(27,.lf (.rows 6 (p_v.aY.map aJ.lf))),(28,.i_ (p_v.aY.length:Int)),(29,.i_ v3)],[.box 3 (.dat [(.int .i64 v4)]),.box 3 (.dat [(.int .i64 v5)]),.dead]⟩) .ret (fun o_=>⟨[],[.box 3 (.dat [(.int .i64 o_.1)]),.box 3 (.dat [(.int .i64 o_.2)]),.dead]⟩) (.exit 3) (fun o_=>⟨[],[.box 3 (.dat [(.int .i64 o_.1)]),.box 3 (.dat [(.int .i64 o_.2)]),.dead]⟩) (ace R_ p_v 0 p_b0 p_b1) (zY R_ p_v) (0,p_b0,p_b1) (fun o2=>
 .rt [] 2 (o2.1,o2.2)) fun o3=>
 .rt [] 2 (o3.1,o3.2))<|
 .ret ⟨[.kill 2],[],[],2⟩ (p_b0,p_b1)
theorem agH(R_:RB3):ab7 fun p_v p_b0 p_b1=>Mo.den (QM R_ p_v p_b0 p_b1):=fun _ _ _=>dQ Tryz.func323
def Nu(R_:RB3)(p_p:ah)(p_b0:Int)(p_b1:Int):Mo (Bool×Int×Int):=
 .say [.order [(true,0),(true,1),(true,2),(true,3),(false,4),(true,5),(false,6)] (some 6) []] ok0<|
 .cl (R_.ok1 p_p (IntKind.wrap .i64 (p_b1-1))) fun r0 _=>
 .ret ⟨[.kill 2],[0],[],2⟩ (decide (((if r0 > p_b0 then r0 else p_b0):Int)<(IntKind.wrap .i64 (p_b1-1))),(if r0 > p_b0 then r0 else p_b0),p_b1)
theorem acf(R_:RB3):ab8 fun p_p p_b0 p_b1=>Mo.den (Nu R_ p_p p_b0 p_b1):=fun _ _ _=>dQ Tryz.func325
def qL:Nat→RB3
 |0=>{ m1:=fun p_v p_most=>none,ok1:=fun _ _ _ h=>(by cases h),m2:=fun p_v p_b0 p_b1=>none,ok2:=fun _ _ _ _ h=>(by cases h),m3:=fun p_p p_b0 p_b1=>none,ok3:=fun _ _ _ _ h=>(by cases h) }
 |n_+1=>{ m1:=fun p_v p_most=>Mo.den (Ns (qL n_) p_v p_most),ok1:=ab9 (qL n_),m2:=fun p_v p_b0 p_b1=>Mo.den (QM (qL n_) p_v p_b0 p_b1),ok2:=agH (qL n_),m3:=fun p_p p_b0 p_b1=>Mo.den (Nu (qL n_) p_p p_b0 p_b1),ok3:=acf (qL n_) }
def amB(p_v:ah)(p_most:Int):Option (Int):=(qL FU).m1 p_v p_most
theorem agI:UH amB:=(qL FU).ok1
def acg(p_v:ah):Mo (Int):=
 .cl (agI p_v 17) fun r0 _=>
 .ret (bn 1) (r0)
def akJ(p_v:ah):Option (Int):=Mo.den (acg p_v)
theorem agJ(p_v:ah):FV (akJ p_v) 204 [.dat (ah.lf1 p_v)] .i_:=dL Tryz.func204
def nT(p_s:ByteArray):(Int)→Mo ((Int)⊕(Unit⊕Unit)):=fun(v0)=>
 .iB (decide ((v0:Int)<(p_s.size:Int))) (.sf Tryz.f327 0 [1,1,0,1,0,0,1,1,0,0,1,0] 0 10 6 [(0,.lf (.str p_s)),(3,.i_ v0),(18,.i_ (p_s.size:Int)),(19,.i_ v0)] [] 31 (lg p_s v0) fun r0=>
 .sk Tryz.f327 0 [1,1,0,1,0,0,1,1,0,0,1,0] 10 6 6 (fun r_=>⟨[(0,.lf (.str p_s)),(18,.i_ (p_s.size:Int)),(19,.i_ v0),(37,.b_ r_)],[]⟩) ⟨[(0,.lf (.str p_s)),(3,.i_ v0),(18,.i_ (p_s.size:Int)),(19,.i_ v0),(31,.b_ r0)],[]⟩ (lq p_s r0 v0) fun r1=>
 .iB (r1) (.rt [2] 0 (.inr (.inl ())))<|
 .rt [0,18,19] 0 (.inl (IntKind.wrap .i64 (v0+1))))<|
 .rt [] 0 (.inr (.inr (())))
def zZ(p_s:ByteArray)(v0:Int):Option (Unit⊕Unit):=dM (fun v_=>(nT p_s v_).den) FU (v0)
def QN(p_s:ByteArray):Mo (Bool):=
 .sf Tryz.f327 0 [1,0,0] 0 8 1 [(0,.lf (.str p_s))] [] 11 (lX p_s) fun r0=>
 .sb Tryz.f327 0 [1,0,0] 8 5 1 [(0,.lf (.str p_s))] [] 11 16 r0 (lY p_s r0) fun r1=>
 .iB (r1) (.ret (bn 1) (false))<|
 .l2m [] Tryz.f327 0 [1,1,0,1,0] 0 (fun(v0)=>⟨[(0,.lf (.str p_s)),(18,.i_ (p_s.size:Int)),(19,.i_ v0)],[]⟩) .ret (fun _=>⟨[(2,.b_ false)],[]⟩) (.exit 0) (fun _=>⟨[],[]⟩) (zZ p_s 0) (nT p_s) (0) (fun o0=>
 .ret (bn 1) (false)) fun o1=>
 .ret (bn 1) (true)
def Q46(p_s:ByteArray):Option (Bool):=Mo.den (QN p_s)
theorem akK(p_s:ByteArray):FV (Q46 p_s) 327 [.lf (.str p_s)] .b_:=dL Tryz.func327
abbrev UJ(m:ah→Option (Bool)):Prop:=∀p_v,FV (m p_v) 205 [.dat (ah.lf1 p_v)] .b_
abbrev ach(m:(List aJ)→Option (Bool)):Prop:=∀p_l,FV (m p_l) 277 [.lf (.rows 6 (p_l.map aJ.lf))] .b_
structure RB4 where
 m1:(p_v:ah)→Option (Bool)
 ok1:UJ m1
 m2:(p_l:List aJ)→Option (Bool)
 ok2:ach m2
def QO(R_:RB4)(p_v:ah):Mo (Bool):=
 .oV 4003 (p_v.ay==3) [1,14] 1 (p_v.ay==9)
def QS(R_:RB4)(p_v:ah)(r0:Bool):Mo (Bool):=
 .oV 4008 (r0) [1,19] 1 (p_v.ay==10)
def Jz(R_:RB4)(p_v:ah)(r0:Bool):Mo (Unit):=
 .rt [1,3] 1 ()
def JA(R_:RB4)(p_v:ah)(r0:Bool):Mo (Bool):=
 .oV 6003 (p_v.ay==4) [1,3,27] 1 (p_v.ay==7)
def JB(R_:RB4)(p_v:ah)(r0:Bool)(r1:Bool):Mo (Bool):=
 .oV 6008 (r0) [1,3,32] 1 (p_v.ay==8)
def JC(R_:RB4)(p_v:ah)(r0:Bool)(r1:Bool):Mo (Unit):=
 .rt [1,3,4] 1 ()
def JD(R_:RB4)(p_v:ah)(r0:Bool)(r1:Bool):Mo (Bool):=
 .aV 8002 (!r1) [1,4,39] 1 (p_v.dG != 0)
def JE(R_:RB4)(p_v:ah)(r0:Bool)(r1:Bool):Mo (Bool):=
 .iG 8007 (r1) (.rt [1,48] 1 (true))<|
 .aV 8010 (!r0) [1,48] 1 (!decide ((p_v.fText:ByteArray)=(⟨#[]⟩:ByteArray)))
def JF(R_:RB4)(p_v:ah):Mo (Bool):=
 .iG 12003 (p_v.ay != 6) (.nu p_v.aU ah.lf<|
 .rt [1,57] 1 (decide ((0:Int)<(p_v.aU.length:Int))))<|
 .rt [1,57] 1 (false)
def JG(R_:RB4)(p_v:ah)(r0:Bool):Mo (Bool):=
 .iG 12009 (r0) (.rt [1,68] 1 (true))<|
 .iG 12013 (p_v.ay != 5) (.nu p_v.aY aJ.lf<|
 .rt [1,68] 1 (decide ((0:Int)<(p_v.aY.length:Int))))<|
 .rt [1,68] 1 (false)
def JH(R_:RB4)(p_v:ah):Mo (Bool):=
 .iB (p_v.ay==1) (.rt [1,70,71] 1 (p_v.ay==1))<|
 .iB (p_v.ay==2) (.rt [1,70,71] 1 (p_v.ay==2))<|
 .iB (p_v.ay==11) (.rt [1,70,71] 1 (p_v.ay==11))<|
 .rt [1,70,71] 1 (p_v.ay==3)
def JI(R_:RB4)(p_v:ah):Mo (Bool):=
 .iG 30003 (p_v.dG==0) (.ret ⟨[.kill 0],[2],[],1⟩ (true))<|
 .ret ⟨[.kill 0],[2],[],1⟩ (p_v.dG==1)
def JJ(R_:RB4)(p_v:ah):Mo (Bool):=
 .iG 38004 (decide (((p_v.fText.size:Int):Int)≤4096)) (.cl (WR p_v.fText) fun r0 _=>
 .ret ⟨[.kill 0],[2],[],1⟩ (r0))<|
 .ret ⟨[.kill 0],[2],[],1⟩ (false)
def wO(R_:RB4)(p_v:ah):(Int)→Mo ((Int)⊕(Unit⊕Unit)):=fun(v0)=>
 .iB (decide ((v0:Int)<(p_v.aU.length:Int))) (.gx ah.aW p_v.aU v0 fun x0 _=>
 .cl (R_.ok1 x0) fun r0 _=>
 .iB (!r0) (.rt [2] 1 (.inr (.inl ())))<|
 .rt [117,118,119] 1 (.inl (IntKind.wrap .i64 (v0+1))))<|
 .rt [] 1 (.inr (.inr (())))
def Xb(R_:RB4)(p_v:ah)(v0:Int):Option (Unit⊕Unit):=dM (fun v_=>(wO R_ p_v v_).den) FU (v0)
def Xc(R_:RB4)(p_v:ah):Mo (Bool):=
 .sf Tryz.f205 0 [1,0] 0 8 1 [(1,.ptr 0 0)] [bK p_v] 14 (QO R_ p_v) fun r0=>
 .sb Tryz.f205 0 [1,0] 8 5 1 [(1,.ptr 0 0)] [bK p_v] 14 19 r0 (QS R_ p_v r0) fun r1=>
 .sk Tryz.f205 0 [1,0] 13 1 1 (fun r_=>⟨[(1,.ptr 0 0),(3,.b_ r1)],[bK p_v]⟩) ⟨[(1,.ptr 0 0),(19,.b_ r1)],[bK p_v]⟩ (Jz R_ p_v r1) fun r2=>
 .sf Tryz.f205 0 [1,1,0] 0 8 2 [(1,.ptr 0 0),(3,.b_ r1)] [bK p_v] 27 (JA R_ p_v r1) fun r3=>
 .sb Tryz.f205 0 [1,1,0] 8 5 2 [(1,.ptr 0 0),(3,.b_ r1)] [bK p_v] 27 32 r3 (JB R_ p_v r3 r1) fun r4=>
 .sk Tryz.f205 0 [1,1,0] 13 1 2 (fun r_=>⟨[(1,.ptr 0 0),(3,.b_ r1),(4,.b_ r4)],[bK p_v]⟩) ⟨[(1,.ptr 0 0),(3,.b_ r1),(32,.b_ r4)],[bK p_v]⟩ (JC R_ p_v r4 r1) fun r5=>
 .sk Tryz.f205 0 [1,1,1,0,0] 0 7 3 (fun r_=>⟨[(1,.ptr 0 0),(4,.b_ r4),(39,.b_ r_)],[bK p_v]⟩) ⟨[(1,.ptr 0 0),(3,.b_ r1),(4,.b_ r4)],[bK p_v]⟩ (JD R_ p_v r4 r1) fun r6=>
 .sk Tryz.f205 0 [1,1,1,0,0] 7 9 3 (fun r_=>⟨[(1,.ptr 0 0),(48,.b_ r_)],[bK p_v]⟩) ⟨[(1,.ptr 0 0),(4,.b_ r4),(39,.b_ r6)],[bK p_v]⟩ (JE R_ p_v r4 r6) fun r7=>
 .iB (r7) (.ret (bn 1) (false))<|
 .sf Tryz.f205 0 [1,1,1,1,0,0] 0 9 5 [(1,.ptr 0 0)] [bK p_v] 57 (JF R_ p_v) fun r8=>
 .sb Tryz.f205 0 [1,1,1,1,0,0] 9 11 5 [(1,.ptr 0 0)] [bK p_v] 57 68 r8 (JG R_ p_v r8) fun r9=>
 .iB (r9) (.ret (bn 1) (false))<|
 .jk Tryz.f205 0 [1,1,1,1,1,0,1,0,0,1] 1 (fun r_=>⟨[(1,.ptr 0 0),(70,.i_ p_v.ay),(71,.b_ r_)],[bK p_v]⟩) ⟨[(1,.ptr 0 0),(70,.i_ p_v.ay),(71,.lf (.bool (p_v.ay==1)))],[bK p_v]⟩ (JH R_ p_v) fun r10=>
 .iB (r10) (.ret (bn 1) (true))<|
 .iB (p_v.ay==9) (.jk Tryz.f205 0 [1,1,1,1,1,0,1,0,1,1,1,0,0] 35 (fun r_=>⟨[(2,.b_ r_)],[.dead]⟩) ⟨[(1,.ptr 0 0)],[bK p_v]⟩ (JI R_ p_v) fun r11=>
 .ret (bn 1) (r11))<|
 .iB (p_v.ay==10) (.ret (bn 1) (decide ((0:Int)≤p_v.dG)))<|
 .iB (p_v.ay==4) (.jk Tryz.f205 0 [1,1,1,1,1,0,1,0,1,1,1,1,1,1,1,0,0] 43 (fun r_=>⟨[(2,.b_ r_)],[.dead]⟩) ⟨[(1,.ptr 0 0)],[bK p_v]⟩ (JJ R_ p_v) fun r12=>
 .ret (bn 1) (r12))<|
 .iB (p_v.ay==7) (.ret (bn 1) (decide (((p_v.fText.size:Int):Int)≤4096)))<|
 .iB (p_v.ay==8) (.ret (bn 1) ((p_v.fText.size:Int)==12))<|
 .iB (p_v.ay==6) (.nu p_v.aU ah.lf<|
 .l2m [.kill 0] Tryz.f205 0 [1,1,1,1,1,0,1,0,1,1,1,1,1,1,1,1,1,1,1,1,1,0,0,1,0] 0 (fun(v0)=>⟨[(117,.lf (.rows 5 (p_v.aU.map ah.lf))),(118,.i_ (p_v.aU.length:Int)),(119,.i_ v0)],[.dead]⟩) .ret (fun _=>⟨[(2,.b_ false)],[.dead]⟩) (.exit 1) (fun _=>⟨[],[.dead]⟩) (Xb R_ p_v 0) (wO R_ p_v) (0) (fun o0=>
 .ret (bn 1) (false)) fun o1=>
 .ret (bn 1) (true))<|
 .iB (p_v.ay==5) (.cl (R_.ok2 p_v.aY) fun r13 _=>
 .ret (bn 1) (r13))<|
 .ret (bn 1) (false)
theorem agK(R_:RB4):UJ fun p_v=>Mo.den (Xc R_ p_v):=fun _=>dL Tryz.func205
def QT(R_:RB4)(m1575:List (ByteArray×Bool))(p_l:List aJ)(v0:Int)(x0:aJ):Mo (Bool):=
 .cl (akK x0.fName) fun r0 _=>
 .iG 12004 (!r0) (.rt [3,5,7,8,9,22] 2 (true))<|
 .say [.row [.bool (rP m1575 x0.fName false)]] (okc (rfl:Tryz.prog=Tryz.prog) (ok1 (BU _ _ _:mD (m1575.map mvB) x0.fName (.bool false)=(.bool (rP m1575 x0.fName false)))))<|
 .rt [3,5,7,8,9,22] 2 (rP m1575 x0.fName false)
def QU(R_:RB4)(m1575:List (ByteArray×Bool))(p_l:List aJ)(r0:Bool)(v0:Int)(x0:aJ):Mo (Bool):=
 .iG 12010 (r0) (.rt [3,5,7,8,9,28] 2 (true))<|
 .cl (R_.ok1 x0.fValue) fun r1 _=>
 .rt [3,5,7,8,9,28] 2 (!r1)
def wP(R_:RB4)(p_l:List aJ):(Int×(List (ByteArray×Bool)))→Mo ((Int×(List (ByteArray×Bool)))⊕(Unit⊕Unit)):=fun(v0,m1575)=>
 .iB (decide ((v0:Int)<(p_l.length:Int))) (.gx aJ.aW p_l v0 fun x0 _=>
 .sf Tryz.f277 0 [1,1,0,1,0,0,1,1,0,0,1,0,0] 0 10 5 [(3,.mp 0),(5,.ptr 1 0),(7,.lf (.rows 6 (p_l.map aJ.lf))),(8,.i_ (p_l.length:Int)),(9,.i_ v0)] [.map Tryz.prog 9 4 (m1575.map mvB),.box 115 (.agg ((aJ.lf1 x0).map AV.lf))] 22 (QT R_ m1575 p_l v0 x0) fun r0=>
 .sb Tryz.f277 0 [1,1,0,1,0,0,1,1,0,0,1,0,0] 10 6 5 [(3,.mp 0),(5,.ptr 1 0),(7,.lf (.rows 6 (p_l.map aJ.lf))),(8,.i_ (p_l.length:Int)),(9,.i_ v0)] [.map Tryz.prog 9 4 (m1575.map mvB),.box 115 (.agg ((aJ.lf1 x0).map AV.lf))] 22 28 r0 (QU R_ m1575 p_l r0 v0 x0) fun r1=>
 .iB (r1) (.ret ⟨[.kill 0],[2],[],1⟩ (.inr (.inl ())))<|
 .say [] (ok1 (rfl:Tryz.prog=Tryz.prog))<|
 .grd (m1575.length<maxLen) fun h0=>
 .say [] (ok1 (by simpa using h0:(m1575.map mvB).length<maxLen))<|
 .rt [3,7,8,9] 1 (.inl (IntKind.wrap .i64 (v0+1),(x0.fName,true)::m1575)))<|
 .ret ⟨[.kill 0],[],[],1⟩ (.inr (.inr (())))
def Xd(R_:RB4)(p_l:List aJ)(v0:Int)(m1575:List (ByteArray×Bool)):Option (Unit⊕Unit):=dM (fun v_=>(wP R_ p_l v_).den) FU (v0,m1575)
def Xe(R_:RB4)(p_l:List aJ):Mo (Bool):=
 .nu p_l aJ.lf<|
 .l2m [] Tryz.f277 0 [1,1,0,1,0] 0 (fun(v0,m1575)=>⟨[(3,.mp 0),(7,.lf (.rows 6 (p_l.map aJ.lf))),(8,.i_ (p_l.length:Int)),(9,.i_ v0)],[.map Tryz.prog 9 4 (m1575.map mvB)]⟩) .ret (fun _=>⟨[(2,.b_ false)],[.dead]⟩) (.exit 0) (fun _=>⟨[],[.dead]⟩) (Xd R_ p_l 0 ([]:List (ByteArray×Bool))) (wP R_ p_l) (0,([]:List (ByteArray×Bool))) (fun o0=>
 .ret (bn 1) (false)) fun o1=>
 .ret (bn 1) (true)
theorem agL(R_:RB4):ach fun p_l=>Mo.den (Xe R_ p_l):=fun _=>dL Tryz.func277
def uK:Nat→RB4
 |0=>{ m1:=fun p_v=>none,ok1:=fun _ _ h=>(by cases h),m2:=fun p_l=>none,ok2:=fun _ _ h=>(by cases h) }
 |n_+1=>{ m1:=fun p_v=>Mo.den (Xc (uK n_) p_v),ok1:=agK (uK n_),m2:=fun p_l=>Mo.den (Xe (uK n_) p_l),ok2:=agL (uK n_) }
def Q13(p_v:ah):Option (Bool):=(uK FU).m1 p_v
theorem akL:UJ Q13:=(uK FU).ok1
def aci(p_v:ah):Mo (Bool):=
 .cl (agG p_v) fun r0 _=>
 .iG 4003 (decide ((r0:Int)≤1024)) (.cl (agJ p_v) fun r1 _=>
 .iG 4008 (decide ((r1:Int)≤16)) (.cl (akL p_v) fun r2 _=>
 .ret (bn 1) (r2))<|
 .ret (bn 1) (false))<|
 .ret (bn 1) (false)
def agM(p_v:ah):Option (Bool):=Mo.den (aci p_v)
theorem ny(p_v:ah):FV (agM p_v) 132 [.dat (ah.lf1 p_v)] .b_:=dL Tryz.func132
def YT(p_v:ah):Mo (Bool):=
 .aV 4003 (p_v.ay != 6) [1,2,10] 1 (p_v.ay != 1)
def YU(p_v:ah)(r0:Bool):Mo (Bool):=
 .aV 4008 (r0) [1,2,15] 1 (p_v.ay != 11)
def UK(p_v:ah)(r0:Bool):Mo (Bool):=
 .iG 4013 (r0) (.cl (ny p_v) fun r1 _=>
 .ret ⟨[.kill 0],[2,19],[],1⟩ (r1))<|
 .ret ⟨[.kill 0],[2,19],[],1⟩ (false)
def acj(p_v:ah):Mo (Bool):=
 .sf Tryz.f110 0 [1,0] 0 8 1 [(1,.ptr 0 0),(2,.b_ false)] [bK p_v] 10 (YT p_v) fun r0=>
 .sb Tryz.f110 0 [1,0] 8 5 1 [(1,.ptr 0 0),(2,.b_ false)] [bK p_v] 10 15 r0 (YU p_v r0) fun r1=>
 .sk Tryz.f110 0 [1,0] 13 4 1 (fun r_=>⟨[(2,.b_ false),(19,.b_ r_)],[.dead]⟩) ⟨[(1,.ptr 0 0),(2,.b_ false),(15,.b_ r1)],[bK p_v]⟩ (UK p_v r1) fun r2=>
 .sk Tryz.f110 0 [1,0] 17 1 1 (fun r_=>⟨[(2,.b_ r2)],[.dead]⟩) ⟨[(2,.b_ false),(19,.b_ r2)],[.dead]⟩ (eX r2) fun r3=>
 .ret (bn 1) (r2)
def amC(p_v:ah):Option (Bool):=Mo.den (acj p_v)
theorem agN(p_v:ah):FV (amC p_v) 110 [.dat (ah.lf1 p_v)] .b_:=dL Tryz.func110
def acn(p_x:Int):Mo (Bool):=
 .ret (bn 1) (p_x != p_x)
def amD(p_x:Int):Option (Bool):=Mo.den (acn p_x)
theorem Xf(p_x:Int):FV (amD p_x) 329 [.i_ p_x] .b_:=dL Tryz.func329
def aco(p_x:Int)(p_y:Int):Mo (Int):=
 .cl (Xf p_x) fun r0 _=>
 .cl (Xf p_y) fun r1 _=>
 .iB (r0) (.iB (r1) (.ret (bn 1) (0))<|
 .ret (bn 1) ((-1)))<|
 .iB (r1) (.ret (bn 1) (1))<|
 .iB (decide ((p_x:Int)<p_y)) (.ret (bn 1) ((-1)))<|
 .iB (decide ((p_y:Int)<p_x)) (.ret (bn 1) (1))<|
 .ret (bn 1) (0)
def amE(p_x:Int)(p_y:Int):Option (Int):=Mo.den (aco p_x p_y)
theorem EJ(p_x:Int)(p_y:Int):FV (amE p_x p_y) 298 [.i_ p_x,.i_ p_y] .i_:=dL Tryz.func298
abbrev UL(m:ah→ah→Option (Int)):Prop:=∀p_a p_b,FV (m p_a p_b) 254 [.dat (ah.lf1 p_a),.dat (ah.lf1 p_b)] .i_
structure RB5 where
 m1:(p_a:ah)→(p_b:ah)→Option (Int)
 ok1:UL m1
def QV(R_:RB5)(p_a:ah)(p_b:ah):Mo (Bool):=
 .iB (p_a.ay==3) (.rt [2,3,21,22] 2 (p_a.ay==3))<|
 .iB (p_a.ay==9) (.rt [2,3,21,22] 2 (p_a.ay==9))<|
 .rt [2,3,21,22] 2 (p_a.ay==10)
def QW(R_:RB5)(p_a:ah)(p_b:ah):Mo (Bool):=
 .iB (p_a.ay==4) (.rt [2,3,21,31] 2 (p_a.ay==4))<|
 .iB (p_a.ay==7) (.rt [2,3,21,31] 2 (p_a.ay==7))<|
 .rt [2,3,21,31] 2 (p_a.ay==8)
def JK(R_:RB5)(p_a:ah)(p_b:ah):(Int)→Mo ((Int)⊕(Int)⊕Unit):=fun(v0)=>
 .iB (decide ((v0:Int)<(if(p_b.aU.length:Int)<(p_a.aU.length:Int) then(p_b.aU.length:Int) else(p_a.aU.length:Int)))) (.ask (qc p_a.aU v0) fun x0 h0=>
 .say [] (ok1 (lS ah.aW h0))<|
 .ask (qc p_b.aU v0) fun x1 h1=>
 .say [] (ok1 (lS ah.aW h1))<|
 .ask (R_.m1 x0 x1) fun r0 h2=>
 .say [.kC (.q 0 (.q 1 (.q 2 (.q 3 (.q 4 (.q 5 (.q 6 (.q 7 (.q 8 (.q 9 (.l 10 (.q 11 .fin)))))))))))) (some 10) [] [.row (ah.lf1 x0),.row (ah.lf1 x1),.res (.i_ r0)] [2,3,6,48,49] 2 [(2,.ptr 0 0),(3,.ptr 1 0),(6,.i_ r0),(48,.i_ (if(p_b.aU.length:Int)<(p_a.aU.length:Int) then(p_b.aU.length:Int) else(p_a.aU.length:Int))),(49,.i_ v0)] [bK p_a,bK p_b]] (okc (R_.ok1 _ _ _ h2) (ok1 (rf_ ⟨[(2,.ptr 0 0),(3,.ptr 1 0),(6,.i_ r0),(48,.i_ (if(p_b.aU.length:Int)<(p_a.aU.length:Int) then(p_b.aU.length:Int) else(p_a.aU.length:Int))),(49,.i_ v0)],[bK p_a,bK p_b]⟩)))<|
 .iB (r0 != 0) (.ret ⟨[.kill 0,.kill 1],[4],[],2⟩ (.inr (.inl (r0))))<|
 .rt [2,3,48,49] 2 (.inl (IntKind.wrap .i64 (v0+1))))<|
 .rt [2,3] 2 (.inr (.inr (())))
def JL(R_:RB5)(p_a:ah)(p_b:ah):(Int)→Mo ((Int)⊕(Int)⊕Unit):=fun(v0)=>
 .iB (decide ((v0:Int)<(if(p_b.aY.length:Int)<(p_a.aY.length:Int) then(p_b.aY.length:Int) else(p_a.aY.length:Int)))) (.ask (qc p_a.aY v0) fun x0 h0=>
 .say [] (ok1 (lS aJ.aW h0))<|
 .ask (qc p_b.aY v0) fun x1 h1=>
 .say [] (ok1 (lS aJ.aW h1))<|
 .ask (aks x0.fName x1.fName) fun r0 h2=>
 .say [.kC (.q 0 (.q 1 (.q 2 (.q 3 (.q 4 (.q 5 (.q 6 (.q 7 (.q 8 (.q 9 (.q 10 (.q 11 (.l 12 (.q 13 .fin)))))))))))))) (some 12) [] [.row (aJ.lf1 x0),.row (aJ.lf1 x1),.res (.i_ r0)] [2,3,7,8,82,83] 2 [(2,.ptr 0 0),(3,.ptr 1 0),(7,.i_ v0),(8,.i_ r0),(82,.i_ (if(p_b.aY.length:Int)<(p_a.aY.length:Int) then(p_b.aY.length:Int) else(p_a.aY.length:Int))),(83,.i_ v0)] [bK p_a,bK p_b]] (okc (WS _ _ _ h2) (ok1 (rf_ ⟨[(2,.ptr 0 0),(3,.ptr 1 0),(7,.i_ v0),(8,.i_ r0),(82,.i_ (if(p_b.aY.length:Int)<(p_a.aY.length:Int) then(p_b.aY.length:Int) else(p_a.aY.length:Int))),(83,.i_ v0)],[bK p_a,bK p_b]⟩)))<|
 .iB (r0 != 0) (.ret ⟨[.kill 0,.kill 1],[4],[],2⟩ (.inr (.inl (r0))))<|
 .ask (qc p_a.aY v0) fun x2 h3=>
 .say [] (ok1 (lS aJ.aW h3))<|
 .ask (qc p_b.aY v0) fun x3 h4=>
 .say [] (ok1 (lS aJ.aW h4))<|
 .ask (R_.m1 x2.fValue x3.fValue) fun r1 h5=>
 .say [.kC (.q 0 (.q 1 (.q 2 (.q 3 (.q 4 (.q 5 (.q 6 (.q 7 (.q 8 (.q 9 (.q 10 (.q 11 (.l 12 (.q 13 .fin)))))))))))))) (some 12) [] [.row (aJ.lf1 x2),.row (aJ.lf1 x3),.res (.i_ r1)] [2,3,9,82,83] 2 [(2,.ptr 0 0),(3,.ptr 1 0),(9,.i_ r1),(82,.i_ (if(p_b.aY.length:Int)<(p_a.aY.length:Int) then(p_b.aY.length:Int) else(p_a.aY.length:Int))),(83,.i_ v0)] [bK p_a,bK p_b]] (okc (R_.ok1 _ _ _ h5) (ok1 (rf_ ⟨[(2,.ptr 0 0),(3,.ptr 1 0),(9,.i_ r1),(82,.i_ (if(p_b.aY.length:Int)<(p_a.aY.length:Int) then(p_b.aY.length:Int) else(p_a.aY.length:Int))),(83,.i_ v0)],[bK p_a,bK p_b]⟩)))<|
 .iB (r1 != 0) (.ret ⟨[.kill 0,.kill 1],[4],[],2⟩ (.inr (.inl (r1))))<|
 .rt [2,3,82,83] 2 (.inl (IntKind.wrap .i64 (v0+1))))<|
 .rt [2,3] 2 (.inr (.inr (())))
def acp(R_:RB5)(p_a:ah)(p_b:ah):Mo (Int):=
 .iB (p_a.ay != p_b.ay) (.cl (EJ p_a.ay p_b.ay) fun r0 _=>
 .ret (bn 1) (r0))<|
 .jk Tryz.f254 0 [1,1,0,1,0,0,1] 1 (fun r_=>⟨[(2,.ptr 0 0),(3,.ptr 1 0),(21,.i_ p_a.ay),(22,.b_ r_)],[bK p_a,bK p_b]⟩) ⟨[(2,.ptr 0 0),(3,.ptr 1 0),(21,.i_ p_a.ay),(22,.lf (.bool (p_a.ay==3)))],[bK p_a,bK p_b]⟩ (QV R_ p_a p_b) fun r1=>
 .iB (r1) (.cl (EJ p_a.dG p_b.dG) fun r2 _=>
 .ret (bn 1) (r2))<|
 .jk Tryz.f254 0 [1,1,0,1,0,1,1,0,1] 1 (fun r_=>⟨[(2,.ptr 0 0),(3,.ptr 1 0),(21,.i_ p_a.ay),(31,.b_ r_)],[bK p_a,bK p_b]⟩) ⟨[(2,.ptr 0 0),(3,.ptr 1 0),(21,.i_ p_a.ay),(31,.lf (.bool (p_a.ay==4)))],[bK p_a,bK p_b]⟩ (QW R_ p_a p_b) fun r3=>
 .iB (r3) (.cl (WS p_a.fText p_b.fText) fun r4 _=>
 .ret (bn 1) (r4))<|
 .iB (p_a.ay==6) (.nu p_a.aU ah.lf<|
 .nu p_b.aU ah.lf<|
 .l2 Tryz.f254 0 [1,1,0,1,0,1,1,1,1,1,0,0,1,0] 0 (fun(v0)=>⟨[(2,.ptr 0 0),(3,.ptr 1 0),(48,.i_ (if(p_b.aU.length:Int)<(p_a.aU.length:Int) then(p_b.aU.length:Int) else(p_a.aU.length:Int))),(49,.i_ v0)],[bK p_a,bK p_b]⟩) .ret (fun o_=>⟨[(4,.i_ o_)],[.dead,.dead]⟩) (.exit 1) (fun _=>⟨[(2,.ptr 0 0),(3,.ptr 1 0)],[bK p_a,bK p_b]⟩) (JK R_ p_a p_b) (0) (fun o0=>
 .ret (bn 1) (o0)) fun o1=>
 .nu p_a.aU ah.lf<|
 .nu p_b.aU ah.lf<|
 .cl (EJ (p_a.aU.length:Int) (p_b.aU.length:Int)) fun r5 _=>
 .ret (bn 1) (r5))<|
 .iB (p_a.ay==5) (.nu p_a.aY aJ.lf<|
 .nu p_b.aY aJ.lf<|
 .l2 Tryz.f254 0 [1,1,0,1,0,1,1,1,1,1,1,1,0,0,1,0] 0 (fun(v1)=>⟨[(2,.ptr 0 0),(3,.ptr 1 0),(82,.i_ (if(p_b.aY.length:Int)<(p_a.aY.length:Int) then(p_b.aY.length:Int) else(p_a.aY.length:Int))),(83,.i_ v1)],[bK p_a,bK p_b]⟩) .ret (fun o_=>⟨[(4,.i_ o_)],[.dead,.dead]⟩) (.exit 3) (fun _=>⟨[(2,.ptr 0 0),(3,.ptr 1 0)],[bK p_a,bK p_b]⟩) (JL R_ p_a p_b) (0) (fun o2=>
 .ret (bn 1) (o2)) fun o3=>
 .nu p_a.aY aJ.lf<|
 .nu p_b.aY aJ.lf<|
 .cl (EJ (p_a.aY.length:Int) (p_b.aY.length:Int)) fun r6 _=>
 .ret (bn 1) (r6))<|
 .ret (bn 1) (0)
theorem agO(R_:RB5):UL fun p_a p_b=>Mo.den (acp R_ p_a p_b):=fun _ _=>dL Tryz.func254
def xU:Nat→RB5
 |0=>{ m1:=fun p_a p_b=>none,ok1:=fun _ _ _ h=>(by cases h) }
 |n_+1=>{ m1:=fun p_a p_b=>Mo.den (acp (xU n_) p_a p_b),ok1:=agO (xU n_) }
def Q67(p_a:ah)(p_b:ah):Option (Int):=(xU FU).m1 p_a p_b
theorem akM:UL Q67:=(xU FU).ok1
def acr(p_a:ah)(p_b:ah):Mo (Bool):=
 .cl (akM p_a p_b) fun r0 _=>
 .ret (bn 1) (r0==0)
def akN(p_a:ah)(p_b:ah):Option (Bool):=Mo.den (acr p_a p_b)
theorem agP(p_a:ah)(p_b:ah):FV (akN p_a p_b) 178 [.dat (ah.lf1 p_a),.dat (ah.lf1 p_b)] .b_:=dL Tryz.func178
def UM(p_n:Int):Mo (Int):=
 .say [] (okc (by decide:(0:Int)≤1) (ok1 (by decide:(0:Int)≤63)))<|
 .ret (bn 1) (dU .xor .u64 (zf .u64 (IntKind.wrap .u64 p_n) 1) (IntKind.wrap .u64 (tX .i64 p_n 63)))
def YV(p_n:Int):Option (Int):=Mo.den (UM p_n)
theorem Nv(p_n:Int):FV (YV p_n) 202 [.i_ p_n] (fun r=>.lf (.int .u64 r)):=dL Tryz.func202
def F5 :(Int×Int)→Mo ((Int×Int)⊕(Int)):=fun(v0,v1)=>
 .iB (decide ((128:Int)≤v1)) (.say [] (ok1 (by decide:(0:Int)≤7))<|
 .rt [3,4] 0 (.inl (IntKind.wrap .i64 (v0+1),tX .u64 v1 7)))<|
 .rt [3] 0 (.inr (v0))
def ajf(p_n:Int):Mo (Int):=
 .cl (Nv p_n) fun r0 _=>
 .l1 Tryz.f300 0 [1,1,0,1,0] 0 (.exit 0) (fun(v0,v1)=>⟨[(3,.i_ v0),(4,.lf (.int .u64 v1))],[]⟩) (fun r_=>⟨[(3,.i_ r_)],[]⟩) (F5 ) (1,r0) fun r1=>
 .ret (bn 1) (r1)
def Q84(p_n:Int):Option (Int):=Mo.den (ajf p_n)
theorem F6(p_n:Int):FV (Q84 p_n) 300 [.i_ p_n] .i_:=dL Tryz.func300
end
end Go.Proofs.YtflpefkohpjjpaaGreatDoor
set_option linter.unusedSimpArgs false
set_option linter.unusedVariables false
namespace Go.Proofs.YtflpefkohpjjpaaGreatDoor
open Go.RowKit
set_option maxRecDepth 20000
set_option maxHeartbeats 4000000
noncomputable section
abbrev UN(m:ah→Option (Int)):Prop:=∀p_v,FV (m p_v) 255 [.dat (ah.lf1 p_v)] .i_
structure RB6 where
 m1:(p_v:ah)→Option (Int)
 ok1:UN m1
def QX(R_:RB6)(p_v:ah):Mo (Bool):=
 .iB (p_v.ay==3) (.rt [1,3,9,10] 1 (p_v.ay==3))<|
 .rt [1,3,9,10] 1 (p_v.ay==10)
def QY(R_:RB6)(p_v:ah):Mo (Bool):=
 .iB (p_v.ay==4) (.rt [1,3,9,22] 1 (p_v.ay==4))<|
 .rt [1,3,9,22] 1 (p_v.ay==7)
def JM(R_:RB6)(p_v:ah):(Int×Int)→Mo ((Int×Int)⊕(Int)):=fun(v0,v1)=>
 .iB (decide ((v1:Int)<(p_v.aU.length:Int))) (.gx ah.aW p_v.aU v1 fun x0 _=>
 .cl (R_.ok1 x0) fun r0 _=>
 .rt [3,51,52,53] 1 (.inl (IntKind.wrap .i64 (v0+r0),IntKind.wrap .i64 (v1+1))))<|
 .rt [3] 1 (.inr (v0))
def JO(R_:RB6)(p_v:ah):(Int×Int)→Mo ((Int×Int)⊕(Int)):=fun(v0,v1)=>
 .iB (decide ((v1:Int)<(p_v.aY.length:Int))) (.gx aJ.aW p_v.aY v1 fun x0 _=>
 .say [.order [(true,0),(true,1),(true,2),(true,3),(true,5),(true,6),(true,7),(true,9),(true,10),(false,4),(true,8),(false,11),(true,12),(true,13),(true,14)] none []] ok0<|
 .cl (F6 (x0.fName.size:Int)) fun r0 _=>
 .cl (R_.ok1 x0.fValue) fun r1 _=>
 .rt [3,71,72,73] 1 (.inl (IntKind.wrap .i64 (v0+(IntKind.wrap .i64 ((IntKind.wrap .i64 (r0+(x0.fName.size:Int)))+r1))),IntKind.wrap .i64 (v1+1))))<|
 .rt [3] 1 (.inr (v0))
def JQ(R_:RB6)(p_v:ah):Mo (Int):=
 .jk Tryz.f255 0 [1,1,0,1,0,0,1] 1 (fun r_=>⟨[(1,.ptr 0 0),(3,.i_ 1),(9,.i_ p_v.ay),(10,.b_ r_)],[bK p_v]⟩) ⟨[(1,.ptr 0 0),(3,.i_ 1),(9,.i_ p_v.ay),(10,.lf (.bool (p_v.ay==3)))],[bK p_v]⟩ (QX R_ p_v) fun r0=>
 .iB (r0) (.cl (F6 p_v.dG) fun r1 _=>
 .ret ⟨[.kill 0],[3],[],1⟩ (IntKind.wrap .i64 (1+r1)))<|
 .iB (p_v.ay==9) (.ret ⟨[.kill 0],[3],[],1⟩ (IntKind.wrap .i64 (1+1)))<|
 .jk Tryz.f255 0 [1,1,0,1,0,1,1,1,1,0,1] 1 (fun r_=>⟨[(1,.ptr 0 0),(3,.i_ 1),(9,.i_ p_v.ay),(22,.b_ r_)],[bK p_v]⟩) ⟨[(1,.ptr 0 0),(3,.i_ 1),(9,.i_ p_v.ay),(22,.lf (.bool (p_v.ay==4)))],[bK p_v]⟩ (QY R_ p_v) fun r2=>
 .iB (r2) (.say [.order [(true,0),(true,1),(true,2),(true,3),(true,5),(true,6),(true,7),(false,4),(true,8),(true,9),(true,10)] none []] ok0<|
 .cl (F6 (p_v.fText.size:Int)) fun r3 _=>
 .ret ⟨[.kill 0],[3],[],1⟩ (IntKind.wrap .i64 (1+(IntKind.wrap .i64 (r3+(p_v.fText.size:Int))))))<|
 .iB (p_v.ay==8) (.ret ⟨[.kill 0],[3],[],1⟩ (IntKind.wrap .i64 (1+(p_v.fText.size:Int))))<|
 .iB (p_v.ay==6) (.nu p_v.aU ah.lf<|
 .ask (Q84 (p_v.aU.length:Int)) fun r4 h0=>
 .say [.res (.i_ r4),.num p_v.aU.length] (okc (F6 _ _ h0) (ok1 (ln_ p_v.aU ah.lf)))<|
 .l1y [.kill 0] Tryz.f255 0 [1,1,0,1,0,1,1,1,1,1,1,1,1,1,0,1,1,0] 0 (.exit 1) (fun(v0,v1)=>⟨[(3,.i_ v0),(51,.lf (.rows 5 (p_v.aU.map ah.lf))),(52,.i_ (p_v.aU.length:Int)),(53,.i_ v1)],[.dead]⟩) (fun r_=>⟨[(3,.i_ r_)],[.dead]⟩) (JM R_ p_v) ((IntKind.wrap .i64 (1+r4)),0) fun r5=>
 .rt [3] 1 (r5))<|
 .iB (p_v.ay==5) (.nu p_v.aY aJ.lf<|
 .ask (Q84 (p_v.aY.length:Int)) fun r6 h1=>
 .say [.res (.i_ r6),.num p_v.aY.length] (okc (F6 _ _ h1) (ok1 (ln_ p_v.aY aJ.lf)))<|
 .l1y [.kill 0] Tryz.f255 0 [1,1,0,1,0,1,1,1,1,1,1,1,1,1,1,1,0,1,1,0] 0 (.exit 3) (fun(v2,v3)=>⟨[(3,.i_ v2),(71,.lf (.rows 6 (p_v.aY.map aJ.lf))),(72,.i_ (p_v.aY.length:Int)),(73,.i_ v3)],[.dead]⟩) (fun r_=>⟨[(3,.i_ r_)],[.dead]⟩) (JO R_ p_v) ((IntKind.wrap .i64 (1+r6)),0) fun r7=>
 .rt [3] 1 (r7))<|
 .ret ⟨[.kill 0],[3],[],1⟩ (1)
def acs(R_:RB6)(p_v:ah):Mo (Int):=
 .jk Tryz.f255 0 [1,1,0,1] 6 (fun r_=>⟨[(3,.i_ r_)],[.dead]⟩) ⟨[(1,.ptr 0 0),(3,.i_ 1),(9,.i_ p_v.ay)],[bK p_v]⟩ (JQ R_ p_v) fun r0=>
 .ret (bn 1) (r0)
theorem agQ(R_:RB6):UN fun p_v=>Mo.den (acs R_ p_v):=fun _=>dL Tryz.func255
def uM:Nat→RB6
 |0=>{ m1:=fun p_v=>none,ok1:=fun _ _ h=>(by cases h) }
 |n_+1=>{ m1:=fun p_v=>Mo.den (acs (uM n_) p_v),ok1:=agQ (uM n_) }
def Q56(p_v:ah):Option (Int):=(uM FU).m1 p_v
theorem akO:UN Q56:=(uM FU).ok1
def acu(p_v:ah):Mo (Int×Int):=
 .cl (ny p_v) fun r0 _=>
 .iB (!r0) (.ret (bn 2) (0,8))<|
 .cl (akO p_v) fun r1 _=>
 .ret (bn 2) (r1,0)
def amF(p_v:ah):Option (Int×Int):=Mo.den (acu p_v)
theorem agR(p_v:ah):FV (amF p_v) 179 [.dat (ah.lf1 p_v)] (fun r=>.tup [.i_ r.1,.i_ r.2]):=dL Tryz.func179
def QZ(p_doc:ah)(p_key:ah):Mo (Bool):=
 .iG 4003 (p_doc.ay != 5) (.rt [2,3,14] 2 (true))<|
 .cl (ny p_doc) fun r0 _=>
 .rt [2,3,14] 2 (!r0)
def Rf(p_doc:ah)(p_key:ah)(r0:Bool):Mo (Bool):=
 .iG 4008 (r0) (.rt [2,3,20] 2 (true))<|
 .nu p_doc.aY aJ.lf<|
 .rt [2,3,20] 2 ((p_doc.aY.length:Int)==0)
def JR(p_doc:ah)(p_key:ah):Mo (Bool):=
 .ask (qc p_doc.aY 0) fun x0 h0=>
 .say [] (ok1 (lS aJ.aW h0))<|
 .ite (!decide ((x0.fName:ByteArray)=(⟨#[95,105,100]⟩:ByteArray))) (fun c0=>
 .say [.kC (.q 0 (.q 1 (.q 2 (.q 3 (.q 4 (.q 5 (.q 6 (.q 7 (.q 8 (.q 9 (.q 10 (.q 11 (.q 12 (.l 13 (.q 14 (.q 15 .fin)))))))))))))))) (some 13) [] [.row (aJ.lf1 x0),.gd 8006 true] [2,36] 2 [(2,.ptr 0 0),(36,.b_ true)] [bK p_doc,bK p_key]] (okc c0 (ok1 (rf_ ⟨[(2,.ptr 0 0),(36,.b_ true)],[bK p_doc,bK p_key]⟩)))<|
 .ret ⟨[.kill 1],[2,36],[],2⟩ (true)) fun c0=>
 .say [] (ok1 c0)<|
 .ask (qc p_doc.aY 0) fun x1 h1=>
 .say [] (ok1 (lS aJ.aW h1))<|
 .ask (akN x1.fValue p_key) fun r0 h2=>
 .say [.kC (.q 0 (.q 1 (.q 2 (.q 3 (.q 4 (.q 5 (.q 6 (.q 7 (.q 8 (.q 9 (.q 10 (.q 11 (.q 12 (.l 13 (.q 14 (.q 15 .fin)))))))))))))))) (some 13) [] [.row (aJ.lf1 x0),.gd 8006 false,.row (aJ.lf1 x1),.res (.b_ r0)] [2,36] 2 [(2,.ptr 0 0),(36,.lf (.bool (!r0)))] [bK p_doc,bK p_key]] (okc (agP _ _ _ h2) (ok1 (rf_ ⟨[(2,.ptr 0 0),(36,.lf (.bool (!r0)))],[bK p_doc,bK p_key]⟩)))<|
 .ret ⟨[.kill 1],[2,36],[],2⟩ (!r0)
def ajg(p_doc:ah)(p_key:ah):Mo (Int):=
 .sf Tryz.f111 0 [1,0,0] 0 8 1 [(2,.ptr 0 0),(3,.ptr 1 0)] [bK p_doc,bK p_key] 14 (QZ p_doc p_key) fun r0=>
 .sb Tryz.f111 0 [1,0,0] 8 6 1 [(2,.ptr 0 0),(3,.ptr 1 0)] [bK p_doc,bK p_key] 14 20 r0 (Rf p_doc p_key r0) fun r1=>
 .iB (r1) (.ret (bn 1) (8))<|
 .jk Tryz.f111 0 [1,1,0,0] 13 (fun r_=>⟨[(2,.ptr 0 0),(36,.b_ r_)],[bK p_doc,.dead]⟩) ⟨[(2,.ptr 0 0),(3,.ptr 1 0)],[bK p_doc,bK p_key]⟩ (JR p_doc p_key) fun r2=>
 .iB (r2) (.ret (bn 1) (8))<|
 .cl (agR p_doc) fun r3 _=>
 .iB (r3.2 != 0) (.ret (bn 1) (r3.2))<|
 .iB (decide ((16384:Int)<r3.1)) (.ret (bn 1) (2))<|
 .ret (bn 1) (0)
def Q88(p_doc:ah)(p_key:ah):Option (Int):=Mo.den (ajg p_doc p_key)
theorem acv(p_doc:ah)(p_key:ah):FV (Q88 p_doc p_key) 111 [.dat (ah.lf1 p_doc),.dat (ah.lf1 p_key)] .i_:=dL Tryz.func111
def YW(p_w:au):Mo ((Int)⊕Unit):=
 .iB (p_w.ay==2) (.cl (acv p_w.aY p_w.ig) fun r0 _=>
 .iB (r0 != 0) (.ret ⟨[.kill 0],[2],[],1⟩ (.inl (r0)))<|
 .rt [1] 1 (.inr (())))<|
 .rt [1] 1 (.inr (()))
def acw(p_w:au):Mo (Int):=
 .cl (agN p_w.ig) fun r0 _=>
 .iB (!r0) (.ret (bn 1) (8))<|
 .j2 [] Tryz.f60 0 [1,1,0,1] 1 .ret (fun o_=>⟨[(2,.i_ o_)],[.dead]⟩) .normal (fun _=>⟨[(1,.ptr 0 0)],[fA p_w]⟩) ⟨[(1,.ptr 0 0),(10,.lf (.bool (p_w.ay==2)))],[fA p_w]⟩ (YW p_w) (fun o0=>
 .ret (bn 1) (o0)) fun o1=>
 .cl (zK p_w.dF) fun r1 _=>
 .iB (r1) (.ret (bn 1) (0))<|
 .cl (acv p_w.dF p_w.ig) fun r2 _=>
 .ret (bn 1) (r2)
def amG(p_w:au):Option (Int):=Mo.den (acw p_w)
theorem agS(p_w:au):FV (amG p_w) 60 [.dat (au.lf1 p_w)] .i_:=dL Tryz.func60
def Rh(p_s:ByteArray):Mo (Bool):=
 .oV 4002 (decide ((p_s:ByteArray)=(⟨#[]⟩:ByteArray))) [0,10] 0 (decide ((32:Int)<(p_s.size:Int)))
def Ri(p_s:ByteArray)(r0:Bool):Mo (Bool):=
 .iG 4007 (r0) (.rt [0,15] 0 (true))<|
 .ask (jK p_s 0) fun b0 h0=>
 .say [.byt b0] (ok1 (fC h0))<|
 .rt [0,15] 0 ((b0.toNat:Int)==36)
def JU(p_s:ByteArray)(v0:Int):Mo (Bool):=
 .ask (jK p_s v0) fun b0 h0=>
 .say [.byt b0] (ok1 (fC h0))<|
 .iG 14004 (decide (((b0.toNat:Int):Int)<33)) (.rt [0,3,17,18,30] 0 (true))<|
 .ask (jK p_s v0) fun b1 h1=>
 .say [.byt b1] (ok1 (fC h1))<|
 .rt [0,3,17,18,30] 0 (decide ((126:Int)<(b1.toNat:Int)))
def JV(p_s:ByteArray)(r0:Bool)(v0:Int):Mo (Bool):=
 .iG 14010 (r0) (.rt [0,17,18,36] 0 (true))<|
 .ask (jK p_s v0) fun b0 h0=>
 .say [.byt b0] (ok1 (fC h0))<|
 .rt [0,17,18,36] 0 ((b0.toNat:Int)==46)
def JW(p_s:ByteArray):(Int)→Mo ((Int)⊕(Unit⊕Unit)):=fun(v0)=>
 .iB (decide ((v0:Int)<(p_s.size:Int))) (.sf Tryz.f113 0 [1,1,0,1,0,0,1,1,0,0,1,0] 0 10 6 [(0,.lf (.str p_s)),(3,.i_ v0),(17,.i_ (p_s.size:Int)),(18,.i_ v0)] [] 30 (JU p_s v0) fun r0=>
 .sk Tryz.f113 0 [1,1,0,1,0,0,1,1,0,0,1,0] 10 6 6 (fun r_=>⟨[(0,.lf (.str p_s)),(17,.i_ (p_s.size:Int)),(18,.i_ v0),(36,.b_ r_)],[]⟩) ⟨[(0,.lf (.str p_s)),(3,.i_ v0),(17,.i_ (p_s.size:Int)),(18,.i_ v0),(30,.b_ r0)],[]⟩ (JV p_s r0 v0) fun r1=>
 .iB (r1) (.rt [2] 0 (.inr (.inl ())))<|
 .rt [0,17,18] 0 (.inl (IntKind.wrap .i64 (v0+1))))<|
 .rt [] 0 (.inr (.inr (())))
def ajh(p_s:ByteArray):Mo (Bool):=
 .sf Tryz.f113 0 [1,0,0] 0 7 1 [(0,.lf (.str p_s))] [] 10 (Rh p_s) fun r0=>
 .sb Tryz.f113 0 [1,0,0] 7 5 1 [(0,.lf (.str p_s))] [] 10 15 r0 (Ri p_s r0) fun r1=>
 .iB (r1) (.ret (bn 1) (false))<|
 .l2 Tryz.f113 0 [1,1,0,1,0] 0 (fun(v0)=>⟨[(0,.lf (.str p_s)),(17,.i_ (p_s.size:Int)),(18,.i_ v0)],[]⟩) .ret (fun _=>⟨[(2,.b_ false)],[]⟩) (.exit 0) (fun _=>⟨[],[]⟩) (JW p_s) (0) (fun o0=>
 .ret (bn 1) (false)) fun o1=>
 .ret (bn 1) (true)
def Q53(p_s:ByteArray):Option (Bool):=Mo.den (ajh p_s)
theorem akP(p_s:ByteArray):FV (Q53 p_s) 113 [.lf (.str p_s)] .b_:=dL Tryz.func113
def sQ(p_s:ByteArray):(Int)→Mo ((Int)⊕(Unit⊕Unit)):=fun(v0)=>
 .iB (decide ((v0:Int)<(p_s.size:Int))) (.sf Tryz.f184 0 [1,1,0,1,0,0,1,1,0,0,1,0] 0 10 6 [(0,.lf (.str p_s)),(3,.i_ v0),(18,.i_ (p_s.size:Int)),(19,.i_ v0)] [] 31 (lg p_s v0) fun r0=>
 .sk Tryz.f184 0 [1,1,0,1,0,0,1,1,0,0,1,0] 10 6 6 (fun r_=>⟨[(0,.lf (.str p_s)),(18,.i_ (p_s.size:Int)),(19,.i_ v0),(37,.b_ r_)],[]⟩) ⟨[(0,.lf (.str p_s)),(3,.i_ v0),(18,.i_ (p_s.size:Int)),(19,.i_ v0),(31,.b_ r0)],[]⟩ (lq p_s r0 v0) fun r1=>
 .iB (r1) (.rt [2] 0 (.inr (.inl ())))<|
 .rt [0,18,19] 0 (.inl (IntKind.wrap .i64 (v0+1))))<|
 .rt [] 0 (.inr (.inr (())))
def Rj(p_s:ByteArray)(v0:Int):Option (Unit⊕Unit):=dM (fun v_=>(sQ p_s v_).den) FU (v0)
def acy(p_s:ByteArray):Mo (Bool):=
 .sf Tryz.f184 0 [1,0,0] 0 8 1 [(0,.lf (.str p_s))] [] 11 (lX p_s) fun r0=>
 .sb Tryz.f184 0 [1,0,0] 8 5 1 [(0,.lf (.str p_s))] [] 11 16 r0 (lY p_s r0) fun r1=>
 .iB (r1) (.ret (bn 1) (true))<|
 .l2m [] Tryz.f184 0 [1,1,0,1,0] 0 (fun(v0)=>⟨[(0,.lf (.str p_s)),(18,.i_ (p_s.size:Int)),(19,.i_ v0)],[]⟩) .ret (fun _=>⟨[(2,.b_ true)],[]⟩) (.exit 0) (fun _=>⟨[],[]⟩) (Rj p_s 0) (sQ p_s) (0) (fun o0=>
 .ret (bn 1) (true)) fun o1=>
 .ret (bn 1) (false)
def akQ(p_s:ByteArray):Option (Bool):=Mo.den (acy p_s)
theorem agT(p_s:ByteArray):FV (akQ p_s) 184 [.lf (.str p_s)] .b_:=dL Tryz.func184
def Aa(p_s:List ByteArray):(Int)→Mo ((Int)⊕(Int)⊕Unit):=fun(v0)=>
 .iB (decide ((v0:Int)<(p_s.length:Int))) (.gx lS_ p_s v0 fun x0 _=>
 .cl (agT x0) fun r0 _=>
 .iB (r0) (.rt [4] 0 (.inr (.inl (v0))))<|
 .rt [0,1,7,8] 0 (.inl (IntKind.wrap .i64 (v0+1))))<|
 .rt [] 0 (.inr (.inr (())))
def acz(p_s:List ByteArray)(v0:Int):Option ((Int)⊕Unit):=dM (fun v_=>(Aa p_s v_).den) FU (v0)
def aji(p_s:List ByteArray):Mo (Int):=
 .nu p_s lfS<|
 .l2m [] Tryz.f257 0 [1,0,1,0] 0 (fun(v0)=>⟨[(0,.lf (.rows 1 (p_s.map lfS))),(1,.raw (.func (.func 184) #[] #[])),(7,.i_ (p_s.length:Int)),(8,.i_ v0)],[]⟩) .ret (fun o_=>⟨[(4,.i_ o_)],[]⟩) (.exit 0) (fun _=>⟨[],[]⟩) (acz p_s 0) (Aa p_s) (0) (fun o0=>
 .rt [0] 0 (o0)) fun o1=>
 .rt [0] 0 ((-1))
def Q62(p_s:List ByteArray):Option (Int):=Mo.den (aji p_s)
theorem akR(p_s:List ByteArray):FH (Q62 p_s) 257 [.lf (.rows 1 (p_s.map lfS)),.raw (.func (.func 184) #[] #[])] [] .i_ (fun _=>[]):=dQ Tryz.func257
def acA(p_s:List ByteArray):Mo (Bool):=
 .cH [] (akR p_s) fun r0 _=>
 .rt [0] 0 (decide ((0:Int)≤r0))
def akS(p_s:List ByteArray):Option (Bool):=Mo.den (acA p_s)
theorem agU(p_s:List ByteArray):FH (akS p_s) 183 [.lf (.rows 1 (p_s.map lfS)),.raw (.func (.func 184) #[] #[])] [] .b_ (fun _=>[]):=dQ Tryz.func183
def Rk(p_p:List ByteArray):Mo (Bool):=
 .nu p_p lfS<|
 .iG 4003 (decide ((1:Int)≤(p_p.length:Int))) (.nu p_p lfS<|
 .rt [0,2,10] 0 (decide (((p_p.length:Int):Int)≤16)))<|
 .rt [0,2,10] 0 (false)
def Rl(p_p:List ByteArray)(r0:Bool):Mo (Bool):=
 .iG 4008 (r0) (.cH [] (agU p_p) fun r1 _=>
 .rt [2,15] 0 (!r1))<|
 .rt [2,15] 0 (false)
def wQ(r0:Bool):Mo (Unit):=
 .rt [2] 0 ()
def ajj(p_p:List ByteArray):Mo (Bool):=
 .sf Tryz.f116 0 [1,0] 0 8 1 [(0,.lf (.rows 1 (p_p.map lfS))),(2,.b_ false)] [] 10 (Rk p_p) fun r0=>
 .sk Tryz.f116 0 [1,0] 8 5 1 (fun r_=>⟨[(2,.b_ false),(15,.b_ r_)],[]⟩) ⟨[(0,.lf (.rows 1 (p_p.map lfS))),(2,.b_ false),(10,.b_ r0)],[]⟩ (Rl p_p r0) fun r1=>
 .sk Tryz.f116 0 [1,0] 13 1 1 (fun r_=>⟨[(2,.b_ r1)],[]⟩) ⟨[(2,.b_ false),(15,.b_ r1)],[]⟩ (wQ r1) fun r2=>
 .ret (bn 1) (r1)
def Q82(p_p:List ByteArray):Option (Bool):=Mo.den (ajj p_p)
theorem F7(p_p:List ByteArray):FV (Q82 p_p) 116 [.lf (.rows 1 (p_p.map lfS))] .b_:=dL Tryz.func116
def JX(p_s1:List ByteArray)(p_s2:List ByteArray):(Int)→Mo ((Int)⊕(Unit⊕Unit)):=fun(v0)=>
 .iB (decide ((v0:Int)<(p_s1.length:Int))) (.say [.order [(true,0),(true,1),(true,2),(true,3),(true,4),(true,5),(true,6),(true,7),(true,8)] none []] ok0<|
 .gx lS_ p_s1 v0 fun x0 _=>
 .gx lS_ p_s2 v0 fun x1 _=>
 .iB (!decide ((x0:ByteArray)=(x1:ByteArray))) (.rt [4] 0 (.inr (.inl ())))<|
 .rt [0,1,12,13] 0 (.inl (IntKind.wrap .i64 (v0+1))))<|
 .rt [] 0 (.inr (.inr (())))
def acB(p_s1:List ByteArray)(p_s2:List ByteArray):Mo (Bool):=
 .nu p_s1 lfS<|
 .nu p_s2 lfS<|
 .iB ((p_s1.length:Int) != (p_s2.length:Int)) (.ret (bn 1) (false))<|
 .nu p_s1 lfS<|
 .l2 Tryz.f23 0 [1,1,0,1,0] 0 (fun(v0)=>⟨[(0,.lf (.rows 1 (p_s1.map lfS))),(1,.lf (.rows 1 (p_s2.map lfS))),(12,.i_ (p_s1.length:Int)),(13,.i_ v0)],[]⟩) .ret (fun _=>⟨[(4,.b_ false)],[]⟩) (.exit 0) (fun _=>⟨[],[]⟩) (JX p_s1 p_s2) (0) (fun o0=>
 .ret (bn 1) (false)) fun o1=>
 .ret (bn 1) (true)
def amH(p_s1:List ByteArray)(p_s2:List ByteArray):Option (Bool):=Mo.den (acB p_s1 p_s2)
theorem agV(p_s1:List ByteArray)(p_s2:List ByteArray):FV (amH p_s1 p_s2) 23 [.lf (.rows 1 (p_s1.map lfS)),.lf (.rows 1 (p_s2.map lfS))] .b_:=dL Tryz.func23
def JY(p_l:List bf)(v0:Int)(x0:bf):(Int)→Mo ((Int)⊕(Unit⊕Unit)):=fun(v1)=>
 .iB (decide ((v1:Int)<((p_l.take v0.toNat).length:Int))) (.gx bf.aW (p_l.take v0.toNat) v1 fun x1 _=>
 .cl (agV x1.cZ x0.cZ) fun r0 _=>
 .iB (r0) (.ret ⟨[.kill 0],[2],[],1⟩ (.inr (.inl ())))<|
 .rt [0,4,10,11,12,23,24,25] 1 (.inl (IntKind.wrap .i64 (v1+1))))<|
 .ret ⟨[.kill 0],[0,10,11,12],[],1⟩ (.inr (.inr (())))
def JZ(p_l:List bf):(Int)→Mo ((Int)⊕(Int)⊕Unit):=fun(v0)=>
 .iB (decide ((v0:Int)<(p_l.length:Int))) (.gx bf.aW p_l v0 fun x0 _=>
 .cl (F7 x0.cZ) fun r0 _=>
 .iB (!r0) (.rt [2] 0 (.inr (.inl (10))))<|
 .say [.rows ((p_l.take v0.toNat).map bf.lf),.num (p_l.take v0.toNat).length] (ok1 (by first|(simp[bf.aW];done)|exact FC _ _ _:(p_l.take v0.toNat).map bf.lf=((p_l.map bf.lf).take v0.toNat).drop (0:Int).toNat))<|
 .grd ((0:Int)≤0∧0≤v0∧v0≤(p_l.length:Int)) fun h0=>
 .say [] (okc (by simpa using h0:(0:Int)≤0∧0≤v0∧v0≤((p_l.map bf.lf).length:Int)) (ok1 (ln_ (p_l.take v0.toNat) bf.lf)))<|
 .l2 Tryz.f117 0 [1,1,0,1,0,0,1,1,0,0,1,1,1,0] 0 (fun(v1)=>⟨[(0,.lf (.rows 2 (p_l.map bf.lf))),(4,.ptr 0 0),(10,.lf (.rows 2 (p_l.map bf.lf))),(11,.i_ (p_l.length:Int)),(12,.i_ v0),(23,.lf (.rows 2 ((p_l.take v0.toNat).map bf.lf))),(24,.i_ ((p_l.take v0.toNat).length:Int)),(25,.i_ v1)],[.box 149 (.agg [.lf (.rows 1 (x0.cZ.map lfS)),.b_ x0.rO])]⟩) .ret (fun _=>⟨[(2,.i_ 12)],[.dead]⟩) (.exit 2) (fun _=>⟨[(0,.lf (.rows 2 (p_l.map bf.lf))),(10,.lf (.rows 2 (p_l.map bf.lf))),(11,.i_ (p_l.length:Int)),(12,.i_ v0)],[.dead]⟩) (JY p_l v0 x0) (0) (fun o0=>
 .rt [2] 0 (.inr (.inl (12)))) fun o1=>
 .rt [0,10,11,12] 0 (.inl (IntKind.wrap .i64 (v0+1))))<|
 .rt [] 0 (.inr (.inr (())))
def acC(p_l:List bf):Mo (Int):=
 .nu p_l bf.lf<|
 .iB (decide ((8:Int)<(p_l.length:Int))) (.ret (bn 1) (2))<|
 .nu p_l bf.lf<|
 .l2 Tryz.f117 0 [1,1,0,1,0] 0 (fun(v0)=>⟨[(0,.lf (.rows 2 (p_l.map bf.lf))),(10,.lf (.rows 2 (p_l.map bf.lf))),(11,.i_ (p_l.length:Int)),(12,.i_ v0)],[]⟩) .ret (fun o_=>⟨[(2,.i_ o_)],[]⟩) (.exit 0) (fun _=>⟨[],[]⟩) (JZ p_l) (0) (fun o0=>
 .ret (bn 1) (o0)) fun o1=>
 .ret (bn 1) (0)
def amI(p_l:List bf):Option (Int):=Mo.den (acC p_l)
theorem agW(p_l:List bf):FV (amI p_l) 117 [.lf (.rows 2 (p_l.map bf.lf))] .i_:=dL Tryz.func117
abbrev UO(m:aO→Int→Int→Option (Bool×Int)):Prop:=∀p_p p_level p_b0,FH (m p_p p_level p_b0) 185 [.dat (aO.lf1 p_p),.i_ p_level,.ptr 0 0] [.box 3 (.dat [(.int .i64 p_b0)])] (fun r=>.b_ r.1) (fun r=>[.box 3 (.dat [(.int .i64 r.2)])])
structure RB7 where
 m1:(p_p:aO)→(p_level:Int)→(p_b0:Int)→Option (Bool×Int)
 ok1:UO m1
def F8(R_:RB7)(p_b0:Int)(p_level:Int)(p_p:aO):Mo (Bool):=
 .oV 4002 (decide ((16:Int)<p_level)) [1,2,3,16] 2 (p_b0==256)
def uN(R_:RB7)(p_level:Int)(p_p:aO):(Int×Int)→Mo ((Int×Int)⊕(Int)⊕(Int)):=fun(v0,v1)=>
 .iB (decide ((v0:Int)<(p_p.bV.length:Int))) (.gx aO.aW p_p.bV v0 fun x0 _=>
 .say [.at_ 16 4,.tod 29] ok0<|
 .cH [0] (R_.ok1 x0 (IntKind.wrap .i64 (p_level+1)) v1) fun r0 _=>
 .iB (!r0.1) (.rt [6] 2 (.inr (.inl (r0.2))))<|
 .rt [1,2,23,24,25] 2 (.inl (IntKind.wrap .i64 (v0+1),r0.2)))<|
 .rt [] 2 (.inr (.inr (v1)))
def Rn(R_:RB7)(p_p:aO)(p_level:Int)(p_b0:Int):Mo (Bool×Int):=
 .jk Tryz.f185 1 [1,0,0] 9 (fun r_=>⟨[(1,.i_ p_level),(2,.ptr 0 0),(3,.ptr 1 0),(16,.b_ r_)],[.box 3 (.dat [(.int .i64 p_b0)]),eG p_p]⟩) ⟨[(1,.i_ p_level),(2,.ptr 0 0),(3,.ptr 1 0)],[.box 3 (.dat [(.int .i64 p_b0)]),eG p_p]⟩ (F8 R_ p_b0 p_level p_p) fun r0=>
 .iB (r0) (.ret ⟨[.kill 1],[0],[],1⟩ (false,p_b0))<|
 .nu p_p.bV aO.lf<|
 .l2y [.kill 1] Tryz.f185 1 [1,1,1,0,1,0] 0 (fun(v0,v1)=>⟨[(1,.i_ p_level),(2,.ptr 0 0),(23,.lf (.rows 25 (p_p.bV.map aO.lf))),(24,.i_ (p_p.bV.length:Int)),(25,.i_ v0)],[.box 3 (.dat [(.int .i64 v1)]),.dead]⟩) .ret (fun o_=>⟨[(6,.b_ false)],[.box 3 (.dat [(.int .i64 o_)]),.dead]⟩) (.exit 0) (fun o_=>⟨[],[.box 3 (.dat [(.int .i64 o_)]),.dead]⟩) (uN R_ p_level p_p) (0,(IntKind.wrap .i64 (p_b0+1))) (fun o0=>
 .rt [0] 1 (false,o0)) fun o1=>
 .rt [0] 1 (true,o1)
theorem agX(R_:RB7):UO fun p_p p_level p_b0=>Mo.den (Rn R_ p_p p_level p_b0):=fun _ _ _=>dQ Tryz.func185
def uO:Nat→RB7
 |0=>{ m1:=fun p_p p_level p_b0=>none,ok1:=fun _ _ _ _ h=>(by cases h) }
 |n_+1=>{ m1:=fun p_p p_level p_b0=>Mo.den (Rn (uO n_) p_p p_level p_b0),ok1:=agX (uO n_) }
def Q63(p_p:aO)(p_level:Int)(p_b0:Int):Option (Bool×Int):=(uO FU).m1 p_p p_level p_b0
theorem akT:UO Q63:=(uO FU).ok1
def YX(p_n:Int)(p_op:Int):Mo (Bool):=
 .iB (p_op==15) (.rt [1,5,6] 0 (p_op==15))<|
 .rt [1,5,6] 0 (p_op==23)
def YZ(p_n:Int)(p_op:Int):Mo (Bool):=
 .iB (p_op==20) (.rt [1,11] 0 (p_op==20))<|
 .iB (p_op==21) (.rt [1,11] 0 (p_op==21))<|
 .rt [1,11] 0 (p_op==22)
def acD(p_op:Int)(p_n:Int):Mo (Bool):=
 .jk Tryz.f303 0 [1,0,1,0,0,1] 1 (fun r_=>⟨[(1,.i_ p_n),(5,.i_ p_op),(6,.b_ r_)],[]⟩) ⟨[(1,.i_ p_n),(5,.i_ p_op),(6,.lf (.bool (p_op==15)))],[]⟩ (YX p_n p_op) fun r0=>
 .iB (r0) (.ret (bn 1) (p_n==1))<|
 .jk Tryz.f303 0 [1,0,1,0,1,1,0,1] 1 (fun r_=>⟨[(1,.i_ p_n),(11,.b_ r_)],[]⟩) ⟨[(1,.i_ p_n),(5,.i_ p_op),(11,.lf (.bool (p_op==20)))],[]⟩ (YZ p_n p_op) fun r1=>
 .iB (r1) (.ret (bn 1) (decide ((1:Int)≤p_n)))<|
 .ret (bn 1) (p_n==0)
def amJ(p_op:Int)(p_n:Int):Option (Bool):=Mo.den (acD p_op p_n)
theorem agY(p_op:Int)(p_n:Int):FV (amJ p_op p_n) 303 [.i_ p_op,.i_ p_n] .b_:=dL Tryz.func303
def acE(p_op:Int):Mo (Bool):=
 .iG 4002 (p_op==8) (.ret (bn 1) (true))<|
 .iG 4006 (p_op==9) (.ret (bn 1) (true))<|
 .ret (bn 1) (p_op==14)
def agZ(p_op:Int):Option (Bool):=Mo.den (acE p_op)
theorem Nw(p_op:Int):FV (agZ p_op) 304 [.i_ p_op] .b_:=dL Tryz.func304
def acF(p_p:aO):Mo (Bool):=
 .iG 8003 (p_p.fN==0) (.ret ⟨[.kill 0],[2],[],1⟩ (true))<|
 .ret ⟨[.kill 0],[2],[],1⟩ (p_p.fN==1)
def acG(p_p:aO):Mo (Bool):=
 .iG 12003 (decide ((1:Int)≤p_p.fN)) (.ret ⟨[.kill 0],[2],[],1⟩ (decide ((p_p.fN:Int)≤11)))<|
 .ret ⟨[.kill 0],[2],[],1⟩ (false)
def Y0(p_p:aO):Mo (Bool):=
 .aV 16003 (decide ((1:Int)≤p_p.fN)) [1,2,34] 1 (decide ((0:Int)≤p_p.fM))
def Y1(p_p:aO)(r0:Bool):Mo (Bool):=
 .iG 16008 (r0) (.ret ⟨[.kill 0],[2,41],[],1⟩ (decide ((p_p.fM:Int)<p_p.fN)))<|
 .ret ⟨[.kill 0],[2,41],[],1⟩ (false)
def ajk(p_p:aO):Mo (Bool):=
 .iB (p_p.fOp==10) (.jk Tryz.f305 0 [1,0,1,0,1,0,0] 13 (fun r_=>⟨[(2,.b_ r_)],[.dead]⟩) ⟨[(1,.ptr 0 0)],[eG p_p]⟩ (acF p_p) fun r0=>
 .ret (bn 1) (r0))<|
 .iB (p_p.fOp==11) (.jk Tryz.f305 0 [1,0,1,0,1,1,1,0,0] 17 (fun r_=>⟨[(2,.b_ r_)],[.dead]⟩) ⟨[(1,.ptr 0 0)],[eG p_p]⟩ (acG p_p) fun r1=>
 .ret (bn 1) (r1))<|
 .iB (p_p.fOp==12) (.sf Tryz.f305 0 [1,0,1,0,1,1,1,1,1,0,0] 0 8 7 [(1,.ptr 0 0),(2,.b_ false)] [eG p_p] 34 (Y0 p_p) fun r2=>
 .sk Tryz.f305 0 [1,0,1,0,1,1,1,1,1,0,0] 8 7 7 (fun r_=>⟨[(2,.b_ false),(41,.b_ r_)],[.dead]⟩) ⟨[(1,.ptr 0 0),(2,.b_ false),(34,.b_ r2)],[eG p_p]⟩ (Y1 p_p r2) fun r3=>
 .sk Tryz.f305 0 [1,0,1,0,1,1,1,1,1,0,0] 15 1 7 (fun r_=>⟨[(2,.b_ r3)],[.dead]⟩) ⟨[(2,.b_ false),(41,.b_ r3)],[.dead]⟩ (eX r3) fun r4=>
 .ret (bn 1) (r3))<|
 .iB (p_p.fOp==13) (.ret (bn 1) (decide ((0:Int)≤p_p.fN)))<|
 .ret (bn 1) (true)
def Q85(p_p:aO):Option (Bool):=Mo.den (ajk p_p)
theorem akU(p_p:aO):FV (Q85 p_p) 305 [.dat (aO.lf1 p_p)] .b_:=dL Tryz.func305
def acH(p_op:Int):Mo (Bool):=
 .iG 4002 (decide ((2:Int)≤p_op)) (.ret (bn 1) (decide ((p_op:Int)≤19)))<|
 .ret (bn 1) (false)
def ag0(p_op:Int):Option (Bool):=Mo.den (acH p_op)
theorem Xg(p_op:Int):FV (ag0 p_op) 306 [.i_ p_op] .b_:=dL Tryz.func306
def acI(p_op:Int):Mo (Bool):=
 .iG 4002 (p_op==16) (.ret (bn 1) (true))<|
 .iG 4006 (p_op==17) (.ret (bn 1) (true))<|
 .ret (bn 1) (p_op==19)
def amK(p_op:Int):Option (Bool):=Mo.den (acI p_op)
theorem Ny(p_op:Int):FV (amK p_op) 308 [.i_ p_op] .b_:=dL Tryz.func308
def acJ(p_op:Int):Mo (Bool):=
 .iG 4002 (decide ((2:Int)≤p_op)) (.iG 4006 (decide ((p_op:Int)≤7)) (.ret (bn 1) (true))<|
 .cl (Ny p_op) fun r0 _=>
 .ret (bn 1) (r0))<|
 .cl (Ny p_op) fun r1 _=>
 .ret (bn 1) (r1)
def ag1(p_op:Int):Option (Bool):=Mo.den (acJ p_op)
theorem Xh(p_op:Int):FV (ag1 p_op) 307 [.i_ p_op] .b_:=dL Tryz.func307
def acK(p_n:Int):Mo (Bool):=
 .iG 4002 (decide ((0:Int)≤p_n)) (.ret (bn 1) (decide ((p_n:Int)<65536)))<|
 .ret (bn 1) (false)
def amL(p_n:Int):Option (Bool):=Mo.den (acK p_n)
theorem Nz(p_n:Int):FV (amL p_n) 331 [.i_ p_n] .b_:=dL Tryz.func331
def acL(p_p:bM):Mo (Bool):=
 .cl (Nz p_p.fX) fun r0 _=>
 .iG 4003 (r0) (.cl (Nz p_p.fY) fun r1 _=>
 .ret (bn 1) (r1))<|
 .ret (bn 1) (false)
def amM(p_p:bM):Option (Bool):=Mo.den (acL p_p)
theorem ag2(p_p:bM):FV (amM p_p) 332 [.dat (bM.lf1 p_p)] .b_:=dL Tryz.func332
def J3(p_s:dZ):Mo (Bool):=
 .iB (p_s.ay==1) (.aV 12002 ((p_s.dD.length:Int)==2) [1,4] 1 (p_s.fR==0))<|
 .iB (p_s.ay==2) (.aC 16002 ((p_s.dD.length:Int)==1) [1,4] 1 (Nz p_s.fR))<|
 .iB (p_s.ay==3) (.iG 20002 (decide ((3:Int)≤(p_s.dD.length:Int))) (.aV 20006 (decide (((p_s.dD.length:Int):Int)≤64)) [1,4] 1 (p_s.fR==0))<|
 .rt [1,4] 1 (false))<|
 .rt [1,4] 1 (false)
def J4(p_s:dZ):(Int)→Mo ((Int)⊕(Unit⊕Unit)):=fun(v0)=>
 .iB (decide ((v0:Int)<(p_s.dD.length:Int))) (.gx bM.aW p_s.dD v0 fun x0 _=>
 .cl (ag2 x0) fun r0 _=>
 .iB (!r0) (.rt [2] 1 (.inr (.inl ())))<|
 .rt [46,47,48] 1 (.inl (IntKind.wrap .i64 (v0+1))))<|
 .rt [] 1 (.inr (.inr (())))
def acM(p_s:dZ):Mo (Int):=
 .nu p_s.dD bM.lf<|
 .jk Tryz.f309 0 [1,1,1,0,1] 6 (fun r_=>⟨[(1,.ptr 0 0),(4,.b_ r_)],[WT p_s]⟩) ⟨[(1,.ptr 0 0),(3,.i_ (p_s.dD.length:Int)),(4,.b_ false),(11,.i_ p_s.ay)],[WT p_s]⟩ (J3 p_s) fun r0=>
 .iB (!r0) (.ret (bn 1) (18))<|
 .nu p_s.dD bM.lf<|
 .l2y [.kill 0] Tryz.f309 0 [1,1,1,1,1,0,1,0] 0 (fun(v0)=>⟨[(46,.lf (.rows 2 (p_s.dD.map bM.lf))),(47,.i_ (p_s.dD.length:Int)),(48,.i_ v0)],[.dead]⟩) .ret (fun _=>⟨[(2,.i_ 18)],[.dead]⟩) (.exit 1) (fun _=>⟨[],[.dead]⟩) (J4 p_s) (0) (fun o0=>
 .ret (bn 1) (18)) fun o1=>
 .ret (bn 1) (0)
def amN(p_s:dZ):Option (Int):=Mo.den (acM p_s)
theorem ag3(p_s:dZ):FV (amN p_s) 309 [.dat (dZ.lf1 p_s)] .i_:=dL Tryz.func309
def UQ(p_v:ah):Mo (Bool):=
 .sf Tryz.f333 0 [1,0] 0 8 1 [(1,.ptr 0 0),(2,.b_ false)] [bK p_v] 10 (o9 p_v) fun r0=>
 .sb Tryz.f333 0 [1,0] 8 5 1 [(1,.ptr 0 0),(2,.b_ false)] [bK p_v] 10 15 r0 (pq p_v r0) fun r1=>
 .sb Tryz.f333 0 [1,0] 13 6 1 [(1,.ptr 0 0),(2,.b_ false)] [bK p_v] 15 21 r1 (ng p_v r1) fun r2=>
 .sk Tryz.f333 0 [1,0] 19 6 1 (fun r_=>⟨[(2,.b_ false),(27,.b_ r_)],[.dead]⟩) ⟨[(1,.ptr 0 0),(2,.b_ false),(21,.b_ r2)],[bK p_v]⟩ (ni p_v r2) fun r3=>
 .sk Tryz.f333 0 [1,0] 25 1 1 (fun r_=>⟨[(2,.b_ r3)],[.dead]⟩) ⟨[(2,.b_ false),(27,.b_ r3)],[.dead]⟩ (eX r3) fun r4=>
 .ret (bn 1) (r3)
def ag4(p_v:ah):Option (Bool):=Mo.den (UQ p_v)
theorem Xi(p_v:ah):FV (ag4 p_v) 333 [.dat (ah.lf1 p_v)] .b_:=dL Tryz.func333
def Ro(p_op:Int):Mo (Bool):=
 .oV 4002 (p_op==10) [0,2,8] 0 (p_op==11)
def Rq(p_op:Int)(r0:Bool):Mo (Bool):=
 .oV 4006 (r0) [0,2,12] 0 (p_op==12)
def J5(p_op:Int)(r0:Bool):Mo (Bool):=
 .oV 4010 (r0) [2,16] 0 (p_op==13)
def acN(p_op:Int):Mo (Bool):=
 .sf Tryz.f334 0 [1,0] 0 6 1 [(0,.i_ p_op),(2,.b_ false)] [] 8 (Ro p_op) fun r0=>
 .sb Tryz.f334 0 [1,0] 6 4 1 [(0,.i_ p_op),(2,.b_ false)] [] 8 12 r0 (Rq p_op r0) fun r1=>
 .sk Tryz.f334 0 [1,0] 10 4 1 (fun r_=>⟨[(2,.b_ false),(16,.b_ r_)],[]⟩) ⟨[(0,.i_ p_op),(2,.b_ false),(12,.b_ r1)],[]⟩ (J5 p_op r1) fun r2=>
 .sk Tryz.f334 0 [1,0] 14 1 1 (fun r_=>⟨[(2,.b_ r2)],[]⟩) ⟨[(2,.b_ false),(16,.b_ r2)],[]⟩ (wQ r2) fun r3=>
 .ret (bn 1) (r2)
def Q74(p_op:Int):Option (Bool):=Mo.den (acN p_op)
theorem akV(p_op:Int):FV (Q74 p_op) 334 [.i_ p_op] .b_:=dL Tryz.func334
def J6(p_e:aS)(r0:Bool):Mo (Bool):=
 .aC 4020 (r0) [1,2,27] 1 (Xi p_e.fArg)
def acO(p_e:aS):Mo (Bool):=
 .sf Tryz.f335 0 [1,0] 0 9 1 [(1,.ptr 0 0),(2,.b_ false)] [fP p_e] 11 (rQ p_e) fun r0=>
 .sb Tryz.f335 0 [1,0] 9 5 1 [(1,.ptr 0 0),(2,.b_ false)] [fP p_e] 11 16 r0 (rU p_e r0) fun r1=>
 .sb Tryz.f335 0 [1,0] 14 6 1 [(1,.ptr 0 0),(2,.b_ false)] [fP p_e] 16 22 r1 (pJ p_e r1) fun r2=>
 .sb Tryz.f335 0 [1,0] 20 5 1 [(1,.ptr 0 0),(2,.b_ false)] [fP p_e] 22 27 r2 (J6 p_e r2) fun r3=>
 .sb Tryz.f335 0 [1,0] 25 5 1 [(1,.ptr 0 0),(2,.b_ false)] [fP p_e] 27 32 r3 (pK p_e r3) fun r4=>
 .sk Tryz.f335 0 [1,0] 30 6 1 (fun r_=>⟨[(2,.b_ false),(38,.b_ r_)],[.dead]⟩) ⟨[(1,.ptr 0 0),(2,.b_ false),(32,.b_ r4)],[fP p_e]⟩ (pO p_e r4) fun r5=>
 .sk Tryz.f335 0 [1,0] 36 1 1 (fun r_=>⟨[(2,.b_ r5)],[.dead]⟩) ⟨[(2,.b_ false),(38,.b_ r5)],[.dead]⟩ (eX r5) fun r6=>
 .ret (bn 1) (r5)
def Q94(p_e:aS):Option (Bool):=Mo.den (acO p_e)
theorem akW(p_e:aS):FV (Q94 p_e) 335 [.dat (aS.lf1 p_e)] .b_:=dL Tryz.func335
def Xj(p_p:aO):Mo (Bool):=
 .cl (Xg p_p.fOp) fun r0 _=>
 .iG 6004 (!r0) (.nu p_p.cZ lfS<|
 .rt [1,3] 1 (decide ((0:Int)<(p_p.cZ.length:Int))))<|
 .rt [1,3] 1 (false)
def Xk(p_p:aO):Mo (Bool):=
 .cl (Xh p_p.fOp) fun r0 _=>
 .iG 8004 (!r0) (.cl (Xi p_p.fArg) fun r1 _=>
 .rt [1,14] 1 (!r1))<|
 .rt [1,14] 1 (false)
def Ru(p_p:aO):Mo (Bool):=
 .cl (Nw p_p.fOp) fun r0 _=>
 .iG 10004 (!r0) (.nu p_p.fArgs ah.lf<|
 .rt [1,25] 1 (decide ((0:Int)<(p_p.fArgs.length:Int))))<|
 .rt [1,25] 1 (false)
def Rw(p_p:aO):Mo (Bool):=
 .cl (akV p_p.fOp) fun r0 _=>
 .aV 12004 (!r0) [1,36] 1 (p_p.fN != 0)
def Rx(p_p:aO):Mo (Bool):=
 .aV 14003 (p_p.fOp != 12) [1,46] 1 (p_p.fM != 0)
def Ry(p_p:aO):Mo (Bool):=
 .iG 16003 (p_p.fOp != 18) (.iG 16008 (p_p.dH.ay != 0) (.rt [1,77] 1 (true))<|
 .nu p_p.dH.dD bM.lf<|
 .oV 16015 (decide ((0:Int)<(p_p.dH.dD.length:Int))) [1,77] 1 (p_p.dH.fR != 0))<|
 .rt [1,77] 1 (false)
def Rz(p_p:aO)(r0:Bool):Mo (Unit):=
 .rt [1,55] 1 ()
def RD(p_p:aO):Mo (Bool):=
 .iG 18003 (p_p.fOp != 24) (.cl (akW p_p.fExpr) fun r0 _=>
 .ret ⟨[.kill 0],[78],[],1⟩ (!r0))<|
 .ret ⟨[.kill 0],[78],[],1⟩ (false)
def F9(p_p:aO):Mo (Unit⊕Unit):=
 .jk Tryz.f310 0 [1,0,0,0] 11 (fun r_=>⟨[(1,.ptr 0 0),(3,.b_ r_)],[eG p_p]⟩) ⟨[(1,.ptr 0 0)],[eG p_p]⟩ (Xj p_p) fun r0=>
 .iB (r0) (.ret ⟨[.kill 0],[],[],1⟩ (.inl ()))<|
 .jk Tryz.f310 0 [1,0,0,1,1,0] 13 (fun r_=>⟨[(1,.ptr 0 0),(14,.b_ r_)],[eG p_p]⟩) ⟨[(1,.ptr 0 0)],[eG p_p]⟩ (Xk p_p) fun r1=>
 .iB (r1) (.ret ⟨[.kill 0],[],[],1⟩ (.inl ()))<|
 .jk Tryz.f310 0 [1,0,0,1,1,1,1,0] 15 (fun r_=>⟨[(1,.ptr 0 0),(25,.b_ r_)],[eG p_p]⟩) ⟨[(1,.ptr 0 0)],[eG p_p]⟩ (Ru p_p) fun r2=>
 .iB (r2) (.ret ⟨[.kill 0],[],[],1⟩ (.inl ()))<|
 .jk Tryz.f310 0 [1,0,0,1,1,1,1,1,1,0] 17 (fun r_=>⟨[(1,.ptr 0 0),(36,.b_ r_)],[eG p_p]⟩) ⟨[(1,.ptr 0 0)],[eG p_p]⟩ (Rw p_p) fun r3=>
 .iB (r3) (.ret ⟨[.kill 0],[],[],1⟩ (.inl ()))<|
 .jk Tryz.f310 0 [1,0,0,1,1,1,1,1,1,1,1,0] 19 (fun r_=>⟨[(1,.ptr 0 0),(46,.b_ r_)],[eG p_p]⟩) ⟨[(1,.ptr 0 0)],[eG p_p]⟩ (Rx p_p) fun r4=>
 .iB (r4) (.ret ⟨[.kill 0],[],[],1⟩ (.inl ()))<|
 .sf Tryz.f310 0 [1,0,0,1,1,1,1,1,1,1,1,1,1,0] 0 22 7 [(1,.ptr 0 0)] [eG p_p] 77 (Ry p_p) fun r5=>
 .sk Tryz.f310 0 [1,0,0,1,1,1,1,1,1,1,1,1,1,0] 22 1 7 (fun r_=>⟨[(1,.ptr 0 0),(55,.b_ r5)],[eG p_p]⟩) ⟨[(1,.ptr 0 0),(77,.b_ r5)],[eG p_p]⟩ (Rz p_p r5) fun r6=>
 .iB (r5) (.ret ⟨[.kill 0],[],[],1⟩ (.inl ()))<|
 .jk Tryz.f310 0 [1,0,0,1,1,1,1,1,1,1,1,1,1,1,1,0] 23 (fun r_=>⟨[(78,.b_ r_)],[.dead]⟩) ⟨[(1,.ptr 0 0)],[eG p_p]⟩ (RD p_p) fun r7=>
 .iB (r7) (.rt [] 1 (.inl ()))<|
 .rt [2] 1 (.inr (()))
def NC(p_p:aO):Option (Unit⊕Unit):=Mo.den (F9 p_p)
def Ac(r_:Unit⊕Unit):Exit:=match r_ with
 |.inl o_=>.normal
 |.inr (o_)=>.ret
def Ad  (r_:Unit⊕Unit):St:=match r_ with
 |.inl o_=>⟨[],[.dead]⟩
 |.inr (o_)=>⟨[(2,.b_ true)],[.dead]⟩
theorem RF{p_p:aO}{r_:Unit⊕Unit}(h:NC p_p=some r_):Ql Tryz.f310 0 [1,0] (Ac r_) (Ad r_) ⟨[(1,.ptr 0 0)],[eG p_p]⟩:=
 BN nN (F9 p_p) Ac Ad (by kernel_rfl) h
def akX(p_p:aO):Mo (Bool):=
 .kL (NC p_p) (fun o0 h0=>
 .say [.pt_ 6 [1] 1 (Ac (.inl o0)) (Ad (.inl o0))] (ok1 (RF h0))<|
 .ret (bn 1) (false)) fun o1 h0=>
 .say [.pt_ 6 [1] 1 (Ac (.inr (o1))) (Ad (.inr (o1)))] (ok1 (RF h0))<|
 .ret (bn 1) (true)
def Q3(p_p:aO):Option (Bool):=Mo.den (akX p_p)
theorem amO(p_p:aO):FV (Q3 p_p) 310 [.dat (aO.lf1 p_p)] .b_:=dL Tryz.func310
def Y2(p_op:Int):Mo (Bool):=
 .iB (p_op==1) (.rt [3,4] 0 (p_op==1))<|
 .iB (p_op==2) (.rt [3,4] 0 (p_op==2))<|
 .rt [3,4] 0 (p_op==3)
def Y3(p_op:Int):Mo (Bool):=
 .iB (p_op==18) (.rt [3,8] 0 (p_op==18))<|
 .iB (p_op==22) (.rt [3,8] 0 (p_op==22))<|
 .iB (p_op==23) (.rt [3,8] 0 (p_op==23))<|
 .iB (p_op==24) (.rt [3,8] 0 (p_op==24))<|
 .iB (p_op==26) (.rt [3,8] 0 (p_op==26))<|
 .iB (p_op==30) (.rt [3,8] 0 (p_op==30))<|
 .iB (p_op==31) (.rt [3,8] 0 (p_op==31))<|
 .rt [3,8] 0 (p_op==36)
def UR(p_op:Int):Mo (Bool):=
 .iB (p_op==32) (.rt [3,17] 0 (p_op==32))<|
 .rt [3,17] 0 (p_op==33)
def UU(p_op:Int):Mo (Bool):=
 .iB (p_op==19) (.rt [3,20] 0 (p_op==19))<|
 .rt [3,20] 0 (p_op==25)
def UW(p_op:Int):Mo (Bool):=
 .iB (p_op==4) (.rt [3,23] 0 (p_op==4))<|
 .iB (p_op==6) (.rt [3,23] 0 (p_op==6))<|
 .iB (p_op==16) (.rt [3,23] 0 (p_op==16))<|
 .iB (p_op==17) (.rt [3,23] 0 (p_op==17))<|
 .iB (p_op==21) (.rt [3,23] 0 (p_op==21))<|
 .iB (p_op==29) (.rt [3,23] 0 (p_op==29))<|
 .rt [3,23] 0 (p_op==37)
def acP(p_op:Int):Mo (Int):=
 .jk Tryz.f343 0 [1,0,1,0,0,1] 1 (fun r_=>⟨[(3,.i_ p_op),(4,.b_ r_)],[]⟩) ⟨[(3,.i_ p_op),(4,.lf (.bool (p_op==1)))],[]⟩ (Y2 p_op) fun r0=>
 .iB (r0) (.ret (bn 1) (0))<|
 .jk Tryz.f343 0 [1,0,1,0,1,1,0,1] 1 (fun r_=>⟨[(3,.i_ p_op),(8,.b_ r_)],[]⟩) ⟨[(3,.i_ p_op),(8,.lf (.bool (p_op==18)))],[]⟩ (Y3 p_op) fun r1=>
 .iB (r1) (.ret (bn 1) (1))<|
 .jk Tryz.f343 0 [1,0,1,0,1,1,1,1,0,1] 1 (fun r_=>⟨[(3,.i_ p_op),(17,.b_ r_)],[]⟩) ⟨[(3,.i_ p_op),(17,.lf (.bool (p_op==32)))],[]⟩ (UR p_op) fun r2=>
 .iB (r2) (.ret (bn 1) (3))<|
 .jk Tryz.f343 0 [1,0,1,0,1,1,1,1,1,1,0,1] 1 (fun r_=>⟨[(3,.i_ p_op),(20,.b_ r_)],[]⟩) ⟨[(3,.i_ p_op),(20,.lf (.bool (p_op==19)))],[]⟩ (UU p_op) fun r3=>
 .iB (r3) (.ret (bn 1) (4))<|
 .jk Tryz.f343 0 [1,0,1,0,1,1,1,1,1,1,1,1,0,1] 1 (fun r_=>⟨[(3,.i_ p_op),(23,.b_ r_)],[]⟩) ⟨[(3,.i_ p_op),(23,.lf (.bool (p_op==4)))],[]⟩ (UW p_op) fun r4=>
 .iB (r4) (.ret (bn 1) (5))<|
 .iB (p_op==35) (.ret (bn 1) (6))<|
 .iB (p_op==34) (.ret (bn 1) (7))<|
 .ret (bn 1) (2)
def akY(p_op:Int):Option (Int):=Mo.den (acP p_op)
theorem Xl(p_op:Int):FV (akY p_op) 343 [.i_ p_op] .i_:=dL Tryz.func343
def Y4(p_n:Int)(p_shape:Int):Mo (Bool):=
 .iB (p_shape==2) (.rt [1,5,14] 0 (p_shape==2))<|
 .rt [1,5,14] 0 (p_shape==3)
def acQ(p_shape:Int)(p_n:Int):Mo (Bool):=
 .iB (p_shape==0) (.ret (bn 1) (p_n==0))<|
 .iB (p_shape==1) (.ret (bn 1) (p_n==1))<|
 .jk Tryz.f342 0 [1,0,1,0,1,1,1,1,0,1] 1 (fun r_=>⟨[(1,.i_ p_n),(5,.i_ p_shape),(14,.b_ r_)],[]⟩) ⟨[(1,.i_ p_n),(5,.i_ p_shape),(14,.lf (.bool (p_shape==2)))],[]⟩ (Y4 p_n p_shape) fun r0=>
 .iB (r0) (.ret (bn 1) (p_n==2))<|
 .iB (p_shape==4) (.ret (bn 1) (p_n==3))<|
 .iB (p_shape==7) (.ret (bn 1) (decide ((1:Int)≤p_n)))<|
 .ret (bn 1) (true)
def akZ(p_shape:Int)(p_n:Int):Option (Bool):=Mo.den (acQ p_shape p_n)
theorem ag5(p_shape:Int)(p_n:Int):FV (akZ p_shape p_n) 342 [.i_ p_shape,.i_ p_n] .b_:=dL Tryz.func342
def acR(p_s:ByteArray):Mo (Bool):=
 .say [.at_ 4 2,.uy 0 ([p_s].map lfS)] (ok1 (by simp[lfS]:[p_s].map lfS=[(lfS p_s)]))<|
 .cl (F7 [p_s]) fun r0 _=>
 .ret (bn 1) (r0)
def amP(p_s:ByteArray):Option (Bool):=Mo.den (acR p_s)
theorem Xm(p_s:ByteArray):FV (amP p_s) 344 [.lf (.str p_s)] .b_:=dL Tryz.func344
def J7(m4094:List (ByteArray×Bool))(p_l:List ByteArray)(v0:Int)(x0:ByteArray):Mo (Bool):=
 .cl (Xm x0) fun r0 _=>
 .iG 12003 (!r0) (.rt [3,5,7,8,9,20] 1 (true))<|
 .say [.row [.bool (rP m4094 x0 false)]] (okc (rfl:Tryz.prog=Tryz.prog) (ok1 (BU _ _ _:mD (m4094.map mvB) x0 (.bool false)=(.bool (rP m4094 x0 false)))))<|
 .rt [3,5,7,8,9,20] 1 (rP m4094 x0 false)
def J8(p_l:List ByteArray):(Int×(List (ByteArray×Bool)))→Mo ((Int×(List (ByteArray×Bool)))⊕(Unit⊕Unit)):=fun(v0,m4094)=>
 .iB (decide ((v0:Int)<(p_l.length:Int))) (.gx lS_ p_l v0 fun x0 _=>
 .jk Tryz.f345 0 [1,1,0,1,0,0,1,1,0,0,1,0,0] 17 (fun r_=>⟨[(3,.mp 0),(5,.lf (.str x0)),(7,.lf (.rows 1 (p_l.map lfS))),(8,.i_ (p_l.length:Int)),(9,.i_ v0),(20,.b_ r_)],[.map Tryz.prog 9 4 (m4094.map mvB)]⟩) ⟨[(3,.mp 0),(5,.lf (.str x0)),(7,.lf (.rows 1 (p_l.map lfS))),(8,.i_ (p_l.length:Int)),(9,.i_ v0)],[.map Tryz.prog 9 4 (m4094.map mvB)]⟩ (J7 m4094 p_l v0 x0) fun r0=>
 .iB (r0) (.ret ⟨[.kill 0],[2],[],1⟩ (.inr (.inl ())))<|
 .say [] (ok1 (rfl:Tryz.prog=Tryz.prog))<|
 .grd (m4094.length<maxLen) fun h0=>
 .say [] (ok1 (by simpa using h0:(m4094.map mvB).length<maxLen))<|
 .rt [3,7,8,9] 1 (.inl (IntKind.wrap .i64 (v0+1),(x0,true)::m4094)))<|
 .ret ⟨[.kill 0],[],[],1⟩ (.inr (.inr (())))
def acS(p_l:List ByteArray):Mo (Bool):=
 .nu p_l lfS<|
 .l2 Tryz.f345 0 [1,1,0,1,0] 0 (fun(v0,m4094)=>⟨[(3,.mp 0),(7,.lf (.rows 1 (p_l.map lfS))),(8,.i_ (p_l.length:Int)),(9,.i_ v0)],[.map Tryz.prog 9 4 (m4094.map mvB)]⟩) .ret (fun _=>⟨[(2,.b_ false)],[.dead]⟩) (.exit 0) (fun _=>⟨[],[.dead]⟩) (J8 p_l) (0,([]:List (ByteArray×Bool))) (fun o0=>
 .ret (bn 1) (false)) fun o1=>
 .ret (bn 1) (true)
def amQ(p_l:List ByteArray):Option (Bool):=Mo.den (acS p_l)
theorem ag6(p_l:List ByteArray):FV (amQ p_l) 345 [.lf (.rows 1 (p_l.map lfS))] .b_:=dL Tryz.func345
def acT(p_v:ah):Mo (Bool):=
 .sf Tryz.f346 0 [1,0] 0 8 1 [(1,.ptr 0 0),(2,.b_ false)] [bK p_v] 10 (o9 p_v) fun r0=>
 .sb Tryz.f346 0 [1,0] 8 5 1 [(1,.ptr 0 0),(2,.b_ false)] [bK p_v] 10 15 r0 (pq p_v r0) fun r1=>
 .sb Tryz.f346 0 [1,0] 13 6 1 [(1,.ptr 0 0),(2,.b_ false)] [bK p_v] 15 21 r1 (ng p_v r1) fun r2=>
 .sk Tryz.f346 0 [1,0] 19 6 1 (fun r_=>⟨[(2,.b_ false),(27,.b_ r_)],[.dead]⟩) ⟨[(1,.ptr 0 0),(2,.b_ false),(21,.b_ r2)],[bK p_v]⟩ (ni p_v r2) fun r3=>
 .sk Tryz.f346 0 [1,0] 25 1 1 (fun r_=>⟨[(2,.b_ r3)],[.dead]⟩) ⟨[(2,.b_ false),(27,.b_ r3)],[.dead]⟩ (eX r3) fun r4=>
 .ret (bn 1) (r3)
def amR(p_v:ah):Option (Bool):=Mo.den (acT p_v)
theorem ag7(p_v:ah):FV (amR p_v) 346 [.dat (ah.lf1 p_v)] .b_:=dL Tryz.func346
def acU(p_e:aS):Mo (Bool):=
 .ite (decide ((p_e.fOp:Int)<1)) (fun c0=>
 .say [.kC (.q 0 (.q 1 (.q 2 (.q 3 (.q 4 (.q 5 (.q 6 (.q 7 (.q 8 (.q 9 (.q 10 (.q 12 (.q 13 (.q 14 (.l 11 (.l 15 (.q 16 (.q 17 .fin)))))))))))))))))) (some 15) [] [.gd 4003 true] [1,22] 1 [(1,.ptr 0 0),(22,.b_ true)] [fP p_e]] (okc c0 (ok1 (rf_ ⟨[(1,.ptr 0 0),(22,.b_ true)],[fP p_e]⟩)))<|
 .rt [1,22] 1 (true)) fun c0=>
 .say [] (ok1 c0)<|
 .ite (decide ((37:Int)<p_e.fOp)) (fun c1=>
 .say [.kC (.q 0 (.q 1 (.q 2 (.q 3 (.q 4 (.q 5 (.q 6 (.q 7 (.q 8 (.q 9 (.q 10 (.q 12 (.q 13 (.q 14 (.l 11 (.l 15 (.q 16 (.q 17 .fin)))))))))))))))))) (some 15) [] [.gd 4003 false,.gd 4008 true] [1,22] 1 [(1,.ptr 0 0),(22,.b_ true)] [fP p_e]] (okc c1 (ok1 (rf_ ⟨[(1,.ptr 0 0),(22,.b_ true)],[fP p_e]⟩)))<|
 .rt [1,22] 1 (true)) fun c1=>
 .say [] (okc c1 (ok1 (ln_ p_e.bV aS.lf)))<|
 .ask (akY p_e.fOp) fun r0 h0=>
 .say [] (ok1 (Xl _ _ h0))<|
 .ask (akZ r0 (p_e.bV.length:Int)) fun r1 h1=>
 .say [.kC (.q 0 (.q 1 (.q 2 (.q 3 (.q 4 (.q 5 (.q 6 (.q 7 (.q 8 (.q 9 (.q 10 (.q 12 (.q 13 (.q 14 (.l 11 (.l 15 (.q 16 (.q 17 .fin)))))))))))))))))) (some 15) [] [.gd 4003 false,.gd 4008 false,.num p_e.bV.length,.res (.i_ r0),.res (.b_ r1)] [1,22] 1 [(1,.ptr 0 0),(22,.lf (.bool (!r1)))] [fP p_e]] (okc (ag5 _ _ _ h1) (ok1 (rf_ ⟨[(1,.ptr 0 0),(22,.lf (.bool (!r1)))],[fP p_e]⟩)))<|
 .rt [1,22] 1 (!r1)
def acV(p_e:aS):Mo (Bool):=
 .iG 8003 (p_e.fOp==34) (.nu p_e.bV aS.lf<|
 .nu p_e.fK lfS<|
 .rt [1,34] 1 ((p_e.bV.length:Int) != (p_e.fK.length:Int)))<|
 .rt [1,34] 1 (false)
def Y5(p_e:aS):Mo (Bool):=
 .oV 12003 (p_e.fOp==2) [1,3] 1 (p_e.fOp==3)
def Y6(p_e:aS)(r0:Bool):Mo (Bool):=
 .iG 14003 (p_e.fOp==3) (.rt [1,3,4] 1 (true))<|
 .cl (Xl p_e.fOp) fun r1 _=>
 .rt [1,3,4] 1 (r1==3)
def Y7(p_e:aS)(r0:Bool)(r1:Bool):Mo (Bool):=
 .iG 16001 (r0) (.cl (F7 p_e.cZ) fun r2 _=>
 .rt [1,3,4,58] 1 (!r2))<|
 .rt [1,3,4,58] 1 (false)
def Y8(p_e:aS)(r0:Bool)(r1:Bool)(r2:Bool):Mo (Bool):=
 .iG 16007 (r2) (.iG 16011 (p_e.fOp==2) (.rt [1,3,4,69] 1 (true))<|
 .nu p_e.cZ lfS<|
 .rt [1,3,4,69] 1 (decide ((0:Int)<(p_e.cZ.length:Int))))<|
 .rt [1,3,4,69] 1 (false)
def Y9(p_e:aS)(r0:Bool)(r1:Bool):Mo (Bool):=
 .iG 20001 (r1) (.cl (Xm p_e.fName) fun r2 _=>
 .rt [1,3,4,76] 1 (!r2))<|
 .rt [1,3,4,76] 1 (false)
def Za(p_e:aS)(r0:Bool)(r1:Bool)(r2:Bool):Mo (Bool):=
 .iG 20007 (r2) (.rt [1,3,4,87] 1 (true))<|
 .iG 20011 (p_e.fOp==34) (.cl (ag6 p_e.fK) fun r3 _=>
 .rt [1,3,4,87] 1 (!r3))<|
 .rt [1,3,4,87] 1 (false)
def Zb(p_e:aS)(r0:Bool)(r1:Bool):Mo (Bool):=
 .iG 24003 (p_e.fOp==1) (.cl (ny p_e.fArg) fun r2 _=>
 .rt [1,3,4,96] 1 (!r2))<|
 .rt [1,3,4,96] 1 (false)
def Zc(p_e:aS)(r0:Bool)(r1:Bool):Mo (Bool):=
 .iG 28002 (!r0) (.nu p_e.cZ lfS<|
 .rt [1,4,104] 1 (decide ((0:Int)<(p_e.cZ.length:Int))))<|
 .rt [1,4,104] 1 (false)
def Zd(p_e:aS)(r0:Bool)(r1:Bool):Mo (Bool):=
 .iG 28008 (r1) (.rt [1,113] 1 (true))<|
 .aV 28011 (!r0) [1,113] 1 (!decide ((p_e.fName:ByteArray)=(⟨#[]⟩:ByteArray)))
def Ze(p_e:aS)(r0:Bool):Mo (Bool):=
 .iG 28017 (r0) (.rt [1,124] 1 (true))<|
 .iG 28021 (p_e.fOp != 34) (.nu p_e.fK lfS<|
 .rt [1,124] 1 (decide ((0:Int)<(p_e.fK.length:Int))))<|
 .rt [1,124] 1 (false)
def Zf(p_e:aS):Mo (Bool):=
 .iG 32003 (p_e.fOp != 1) (.cl (ag7 p_e.fArg) fun r0 _=>
 .rt [1,133] 1 (!r0))<|
 .rt [1,133] 1 (false)
def Zg(p_e:aS)(r0:Bool):Mo (Bool):=
 .iG 32009 (r0) (.ret ⟨[.kill 0],[138],[],1⟩ (true))<|
 .ret ⟨[.kill 0],[138],[],1⟩ (p_e.fN != 0)
def ajl(p_e:aS):Mo (Int):=
 .jk Tryz.f339 0 [1,0,0] 9 (fun r_=>⟨[(1,.ptr 0 0),(22,.b_ r_)],[fP p_e]⟩) ⟨[(1,.ptr 0 0)],[fP p_e]⟩ (acU p_e) fun r0=>
 .iB (r0) (.ret (bn 1) (11))<|
 .jk Tryz.f339 0 [1,1,0,0] 13 (fun r_=>⟨[(1,.ptr 0 0),(34,.b_ r_)],[fP p_e]⟩) ⟨[(1,.ptr 0 0)],[fP p_e]⟩ (acV p_e) fun r1=>
 .iB (r1) (.ret (bn 1) (11))<|
 .jk Tryz.f339 0 [1,1,1,0] 17 (fun r_=>⟨[(1,.ptr 0 0),(3,.b_ r_)],[fP p_e]⟩) ⟨[(1,.ptr 0 0)],[fP p_e]⟩ (Y5 p_e) fun r2=>
 .jk Tryz.f339 0 [1,1,1,1,0] 19 (fun r_=>⟨[(1,.ptr 0 0),(3,.b_ r2),(4,.b_ r_)],[fP p_e]⟩) ⟨[(1,.ptr 0 0),(3,.b_ r2)],[fP p_e]⟩ (Y6 p_e r2) fun r3=>
 .sf Tryz.f339 0 [1,1,1,1,1,0,0] 0 7 7 [(1,.ptr 0 0),(3,.b_ r2),(4,.b_ r3)] [fP p_e] 58 (Y7 p_e r2 r3) fun r4=>
 .sb Tryz.f339 0 [1,1,1,1,1,0,0] 7 11 7 [(1,.ptr 0 0),(3,.b_ r2),(4,.b_ r3)] [fP p_e] 58 69 r4 (Y8 p_e r2 r3 r4) fun r5=>
 .iB (r5) (.ret (bn 1) (10))<|
 .sf Tryz.f339 0 [1,1,1,1,1,1,0,0] 0 7 9 [(1,.ptr 0 0),(3,.b_ r2),(4,.b_ r3)] [fP p_e] 76 (Y9 p_e r2 r3) fun r6=>
 .sb Tryz.f339 0 [1,1,1,1,1,1,0,0] 7 11 9 [(1,.ptr 0 0),(3,.b_ r2),(4,.b_ r3)] [fP p_e] 76 87 r6 (Za p_e r2 r3 r6) fun r7=>
 .iB (r7) (.ret (bn 1) (9))<|
 .jk Tryz.f339 0 [1,1,1,1,1,1,1,0,0] 29 (fun r_=>⟨[(1,.ptr 0 0),(3,.b_ r2),(4,.b_ r3),(96,.b_ r_)],[fP p_e]⟩) ⟨[(1,.ptr 0 0),(3,.b_ r2),(4,.b_ r3)],[fP p_e]⟩ (Zb p_e r2 r3) fun r8=>
 .iB (r8) (.ret (bn 1) (8))<|
 .sk Tryz.f339 0 [1,1,1,1,1,1,1,1,0,0] 0 8 13 (fun r_=>⟨[(1,.ptr 0 0),(4,.b_ r3),(104,.b_ r_)],[fP p_e]⟩) ⟨[(1,.ptr 0 0),(3,.b_ r2),(4,.b_ r3)],[fP p_e]⟩ (Zc p_e r2 r3) fun r9=>
 .sk Tryz.f339 0 [1,1,1,1,1,1,1,1,0,0] 8 9 13 (fun r_=>⟨[(1,.ptr 0 0),(113,.b_ r_)],[fP p_e]⟩) ⟨[(1,.ptr 0 0),(4,.b_ r3),(104,.b_ r9)],[fP p_e]⟩ (Zd p_e r3 r9) fun r10=>
 .sb Tryz.f339 0 [1,1,1,1,1,1,1,1,0,0] 17 11 13 [(1,.ptr 0 0)] [fP p_e] 113 124 r10 (Ze p_e r10) fun r11=>
 .iB (r11) (.ret (bn 1) (4))<|
 .sf Tryz.f339 0 [1,1,1,1,1,1,1,1,1,0,0] 0 9 15 [(1,.ptr 0 0)] [fP p_e] 133 (Zf p_e) fun r12=>
 .sk Tryz.f339 0 [1,1,1,1,1,1,1,1,1,0,0] 9 5 15 (fun r_=>⟨[(138,.b_ r_)],[.dead]⟩) ⟨[(1,.ptr 0 0),(133,.b_ r12)],[fP p_e]⟩ (Zg p_e r12) fun r13=>
 .iB (r13) (.ret (bn 1) (4))<|
 .ret (bn 1) (0)
def Q26(p_e:aS):Option (Int):=Mo.den (ajl p_e)
theorem ak0(p_e:aS):FV (Q26 p_e) 339 [.dat (aS.lf1 p_e)] .i_:=dL Tryz.func339
abbrev UY(m:aS→Int→Int→Option (Int×Int)):Prop:=∀p_e p_level p_b0,FH (m p_e p_level p_b0) 336 [.dat (aS.lf1 p_e),.i_ p_level,.ptr 0 0] [.box 3 (.dat [(.int .i64 p_b0)])] (fun r=>.i_ r.1) (fun r=>[.box 3 (.dat [(.int .i64 r.2)])])
structure RB9 where
 m1:(p_e:aS)→(p_level:Int)→(p_b0:Int)→Option (Int×Int)
 ok1:UY m1
def Gf(R_:RB9)(p_b0:Int)(p_e:aS)(p_level:Int):Mo (Bool):=
 .oV 4002 (decide ((16:Int)<p_level)) [1,2,3,18] 2 (p_b0==256)
def uP(R_:RB9)(p_e:aS)(p_level:Int):(Int×Int)→Mo ((Int×Int)⊕(Int×Int)⊕(Int)):=fun(v0,v1)=>
 .iB (decide ((v0:Int)<(p_e.bV.length:Int))) (.gx aS.aW p_e.bV v0 fun x0 _=>
 .say [.at_ 22 4,.tod 36] ok0<|
 .cH [0] (R_.ok1 x0 (IntKind.wrap .i64 (p_level+1)) v1) fun r0 _=>
 .iB (r0.1 != 0) (.rt [6] 2 (.inr (.inl (r0.1,r0.2))))<|
 .rt [1,2,30,31,32] 2 (.inl (IntKind.wrap .i64 (v0+1),r0.2)))<|
 .rt [] 2 (.inr (.inr (v1)))
def RG(R_:RB9)(p_e:aS)(p_level:Int)(p_b0:Int):Mo (Int×Int):=
 .jk Tryz.f336 1 [1,0,0] 9 (fun r_=>⟨[(1,.i_ p_level),(2,.ptr 0 0),(3,.ptr 1 0),(18,.b_ r_)],[.box 3 (.dat [(.int .i64 p_b0)]),fP p_e]⟩) ⟨[(1,.i_ p_level),(2,.ptr 0 0),(3,.ptr 1 0)],[.box 3 (.dat [(.int .i64 p_b0)]),fP p_e]⟩ (Gf R_ p_b0 p_e p_level) fun r0=>
 .iB (r0) (.ret ⟨[.kill 1],[0],[],1⟩ (2,p_b0))<|
 .cl (ak0 p_e) fun r1 _=>
 .iB (r1 != 0) (.ret ⟨[.kill 1],[0],[],1⟩ (r1,IntKind.wrap .i64 (p_b0+1)))<|
 .nu p_e.bV aS.lf<|
 .l2y [.kill 1] Tryz.f336 1 [1,1,1,1,0,1,0] 0 (fun(v0,v1)=>⟨[(1,.i_ p_level),(2,.ptr 0 0),(30,.lf (.rows 11 (p_e.bV.map aS.lf))),(31,.i_ (p_e.bV.length:Int)),(32,.i_ v0)],[.box 3 (.dat [(.int .i64 v1)]),.dead]⟩) .ret (fun o_=>⟨[(6,.i_ o_.1)],[.box 3 (.dat [(.int .i64 o_.2)]),.dead]⟩) (.exit 0) (fun o_=>⟨[],[.box 3 (.dat [(.int .i64 o_)]),.dead]⟩) (uP R_ p_e p_level) (0,(IntKind.wrap .i64 (p_b0+1))) (fun o0=>
 .rt [0] 1 (o0.1,o0.2)) fun o1=>
 .rt [0] 1 (0,o1)
theorem ag8(R_:RB9):UY fun p_e p_level p_b0=>Mo.den (RG R_ p_e p_level p_b0):=fun _ _ _=>dQ Tryz.func336
def uQ:Nat→RB9
 |0=>{ m1:=fun p_e p_level p_b0=>none,ok1:=fun _ _ _ _ h=>(by cases h) }
 |n_+1=>{ m1:=fun p_e p_level p_b0=>Mo.den (RG (uQ n_) p_e p_level p_b0),ok1:=ag8 (uQ n_) }
def Q87(p_e:aS)(p_level:Int)(p_b0:Int):Option (Int×Int):=(uQ FU).m1 p_e p_level p_b0
theorem ak1:UY Q87:=(uQ FU).ok1
def UZ(p_e:aS):Mo (Int):=
 .cH [1] (ak1 p_e 1 0) fun r0 _=>
 .ret (bn 1) (r0.1)
def ag9(p_e:aS):Option (Int):=Mo.den (UZ p_e)
theorem aha(p_e:aS):FV (ag9 p_e) 311 [.dat (aS.lf1 p_e)] .i_:=dL Tryz.func311
def Xn(p_inside:Bool)(p_p:aO):Mo (Bool):=
 .oV 4003 (decide ((p_p.fOp:Int)<1)) [1,2,15] 1 (decide ((24:Int)<p_p.fOp))
def Xo(p_inside:Bool)(p_p:aO)(r0:Bool):Mo (Bool):=
 .iG 4008 (r0) (.rt [1,2,24] 1 (true))<|
 .nu p_p.bV aO.lf<|
 .cl (agY p_p.fOp (p_p.bV.length:Int)) fun r1 _=>
 .rt [1,2,24] 1 (!r1)
def RH(p_inside:Bool)(p_p:aO):Mo (Bool):=
 .cl (Nw p_p.fOp) fun r0 _=>
 .iG 8003 (r0) (.nu p_p.fArgs ah.lf<|
 .rt [1,2,33] 1 ((p_p.fArgs.length:Int)==0))<|
 .rt [1,2,33] 1 (false)
def RI(p_inside:Bool)(p_p:aO)(r0:Bool):Mo (Bool):=
 .iG 8009 (r0) (.rt [1,2,38] 1 (true))<|
 .cl (akU p_p) fun r1 _=>
 .rt [1,2,38] 1 (!r1)
def RJ(p_inside:Bool)(p_p:aO):Mo (Bool):=
 .cl (Xg p_p.fOp) fun r0 _=>
 .iG 12003 (r0) (.cl (F7 p_p.cZ) fun r1 _=>
 .rt [1,2,47] 1 (!r1))<|
 .rt [1,2,47] 1 (false)
def RN(p_inside:Bool)(p_p:aO)(r0:Bool):Mo (Bool):=
 .iG 12009 (r0) (.iG 12012 (!p_inside) (.rt [2,57] 1 (true))<|
 .nu p_p.cZ lfS<|
 .rt [2,57] 1 (decide ((0:Int)<(p_p.cZ.length:Int))))<|
 .rt [2,57] 1 (false)
def RP(p_p:aO):Mo (Bool):=
 .cl (Xh p_p.fOp) fun r0 _=>
 .iG 16003 (r0) (.cl (ny p_p.fArg) fun r1 _=>
 .rt [2,66] 1 (!r1))<|
 .rt [2,66] 1 (false)
def RQ(p_p:aO)(r0:Bool):Mo (Bool):=
 .iG 16009 (r0) (.rt [2,77] 1 (true))<|
 .cl (Ny p_p.fOp) fun r1 _=>
 .aV 16013 (r1) [2,77] 1 (p_p.fArg.ay != 4)
def RS(p_p:aO):(Int)→Mo ((Int)⊕(Unit⊕Unit)):=fun(v0)=>
 .iB (decide ((v0:Int)<(p_p.fArgs.length:Int))) (.gx ah.aW p_p.fArgs v0 fun x0 _=>
 .cl (ny x0) fun r0 _=>
 .iB (!r0) (.ret ⟨[.kill 0],[4],[],1⟩ (.inr (.inl ())))<|
 .rt [2,82,83,84] 1 (.inl (IntKind.wrap .i64 (v0+1))))<|
 .rt [2] 1 (.inr (.inr (())))
def RU(p_p:aO)(r0:Bool):Mo (Unit⊕Unit):=
 .iB (r0) (.nu p_p.fArgs ah.lf<|
 .l2 Tryz.f258 0 [1,1,1,1,1,0,1,0,1,0] 0 (fun(v0)=>⟨[(2,.ptr 0 0),(82,.lf (.rows 5 (p_p.fArgs.map ah.lf))),(83,.i_ (p_p.fArgs.length:Int)),(84,.i_ v0)],[eG p_p]⟩) .ret (fun _=>⟨[(4,.i_ 8)],[.dead]⟩) (.exit 0) (fun _=>⟨[(2,.ptr 0 0)],[eG p_p]⟩) (RS p_p) (0) (fun o0=>
 .rt [4] 1 (.inl ())) fun o1=>
 .rt [2] 1 (.inr (())))<|
 .rt [2] 1 (.inr (()))
def Gg(p_p:aO):Mo ((Int)⊕Unit):=
 .iB (p_p.fOp==18) (.cl (ag3 p_p.dH) fun r0 _=>
 .iB (r0 != 0) (.ret ⟨[.kill 0],[4],[],1⟩ (.inl (r0)))<|
 .rt [2] 1 (.inr (())))<|
 .rt [2] 1 (.inr (()))
def ak2(p_p:aO)(p_inside:Bool):Mo (Int):=
 .sf Tryz.f258 0 [1,0,0] 0 8 1 [(1,.b_ p_inside),(2,.ptr 0 0)] [eG p_p] 15 (Xn p_inside p_p) fun r0=>
 .sb Tryz.f258 0 [1,0,0] 8 9 1 [(1,.b_ p_inside),(2,.ptr 0 0)] [eG p_p] 15 24 r0 (Xo p_inside p_p r0) fun r1=>
 .iB (r1) (.ret (bn 1) (11))<|
 .sf Tryz.f258 0 [1,1,0,0] 0 9 3 [(1,.b_ p_inside),(2,.ptr 0 0)] [eG p_p] 33 (RH p_inside p_p) fun r2=>
 .sb Tryz.f258 0 [1,1,0,0] 9 5 3 [(1,.b_ p_inside),(2,.ptr 0 0)] [eG p_p] 33 38 r2 (RI p_inside p_p r2) fun r3=>
 .iB (r3) (.ret (bn 1) (11))<|
 .sf Tryz.f258 0 [1,1,1,0,0] 0 9 5 [(1,.b_ p_inside),(2,.ptr 0 0)] [eG p_p] 47 (RJ p_inside p_p) fun r4=>
 .sk Tryz.f258 0 [1,1,1,0,0] 9 10 5 (fun r_=>⟨[(2,.ptr 0 0),(57,.b_ r_)],[eG p_p]⟩) ⟨[(1,.b_ p_inside),(2,.ptr 0 0),(47,.b_ r4)],[eG p_p]⟩ (RN p_inside p_p r4) fun r5=>
 .iB (r5) (.ret (bn 1) (10))<|
 .sf Tryz.f258 0 [1,1,1,1,0,0] 0 9 7 [(2,.ptr 0 0)] [eG p_p] 66 (RP p_p) fun r6=>
 .sb Tryz.f258 0 [1,1,1,1,0,0] 9 11 7 [(2,.ptr 0 0)] [eG p_p] 66 77 r6 (RQ p_p r6) fun r7=>
 .iB (r7) (.ret (bn 1) (8))<|
 .cl (Nw p_p.fOp) fun r8 _=>
 .j2 [] Tryz.f258 0 [1,1,1,1,1,0,1] 1 .ret (fun _=>⟨[(4,.i_ 8)],[.dead]⟩) .normal (fun _=>⟨[(2,.ptr 0 0)],[eG p_p]⟩) ⟨[(2,.ptr 0 0),(80,.b_ r8)],[eG p_p]⟩ (RU p_p r8) (fun o0=>
 .ret (bn 1) (8)) fun o1=>
 .j2 [] Tryz.f258 0 [1,1,1,1,1,1,0,1] 1 .ret (fun o_=>⟨[(4,.i_ o_)],[.dead]⟩) .normal (fun _=>⟨[(2,.ptr 0 0)],[eG p_p]⟩) ⟨[(2,.ptr 0 0),(94,.lf (.bool (p_p.fOp==18)))],[eG p_p]⟩ (Gg p_p) (fun o2=>
 .ret (bn 1) (o2)) fun o3=>
 .cl (amO p_p) fun r9 _=>
 .iB (!r9) (.ret (bn 1) (4))<|
 .iB (p_p.fOp==24) (.cl (aha p_p.fExpr) fun r10 _=>
 .ret (bn 1) (r10))<|
 .ret (bn 1) (0)
def Q9(p_p:aO)(p_inside:Bool):Option (Int):=Mo.den (ak2 p_p p_inside)
theorem amS(p_p:aO)(p_inside:Bool):FV (Q9 p_p p_inside) 258 [.dat (aO.lf1 p_p),.b_ p_inside] .i_:=dL Tryz.func258
abbrev U0(m:aO→Bool→Option (Int)):Prop:=∀p_p p_inside,FV (m p_p p_inside) 186 [.dat (aO.lf1 p_p),.b_ p_inside] .i_
structure RB8 where
 m1:(p_p:aO)→(p_inside:Bool)→Option (Int)
 ok1:U0 m1
def Gi(R_:RB8)(p_inside:Bool)(p_p:aO)(v0:Int)(x0:aO):Mo (Int):=
 .iG 16002 (p_inside) (.cl (R_.ok1 x0 true) fun r0 _=>
 .ret ⟨[.kill 1],[1,2,8,16,17,18],[],2⟩ (r0))<|
 .cl (R_.ok1 x0 (p_p.fOp==15)) fun r1 _=>
 .ret ⟨[.kill 1],[1,2,8,16,17,18],[],2⟩ (r1)
def uS(R_:RB8)(p_inside:Bool)(p_p:aO):(Int)→Mo ((Int)⊕(Int)⊕Unit):=fun(v0)=>
 .iB (decide ((v0:Int)<(p_p.bV.length:Int))) (.gx aO.aW p_p.bV v0 fun x0 _=>
 .jk Tryz.f186 0 [1,1,0,1,0,0,1,1,0,0,1,0] 21 (fun r_=>⟨[(1,.b_ p_inside),(2,.ptr 0 0),(8,.i_ r_),(16,.lf (.rows 25 (p_p.bV.map aO.lf))),(17,.i_ (p_p.bV.length:Int)),(18,.i_ v0)],[eG p_p,.dead]⟩) ⟨[(1,.b_ p_inside),(2,.ptr 0 0),(7,.ptr 1 0),(16,.lf (.rows 25 (p_p.bV.map aO.lf))),(17,.i_ (p_p.bV.length:Int)),(18,.i_ v0)],[eG p_p,.box 43 (.agg ((aO.lf1 x0).map AV.lf))]⟩ (Gi R_ p_inside p_p v0 x0) fun r0=>
 .iB (r0 != 0) (.ret ⟨[.kill 0],[4],[],1⟩ (.inr (.inl (r0))))<|
 .rt [1,2,16,17,18] 1 (.inl (IntKind.wrap .i64 (v0+1))))<|
 .ret ⟨[.kill 0],[],[],1⟩ (.inr (.inr (())))
def RV(R_:RB8)(p_p:aO)(p_inside:Bool):Mo (Int):=
 .cl (amS p_p p_inside) fun r0 _=>
 .iB (r0 != 0) (.ret (bn 1) (r0))<|
 .nu p_p.bV aO.lf<|
 .l2 Tryz.f186 0 [1,1,0,1,0] 0 (fun(v0)=>⟨[(1,.b_ p_inside),(2,.ptr 0 0),(16,.lf (.rows 25 (p_p.bV.map aO.lf))),(17,.i_ (p_p.bV.length:Int)),(18,.i_ v0)],[eG p_p]⟩) .ret (fun o_=>⟨[(4,.i_ o_)],[.dead]⟩) (.exit 0) (fun _=>⟨[],[.dead]⟩) (uS R_ p_inside p_p) (0) (fun o0=>
 .ret (bn 1) (o0)) fun o1=>
 .ret (bn 1) (0)
theorem ahb(R_:RB8):U0 fun p_p p_inside=>Mo.den (RV R_ p_p p_inside):=fun _ _=>dL Tryz.func186
def uT:Nat→RB8
 |0=>{ m1:=fun p_p p_inside=>none,ok1:=fun _ _ _ h=>(by cases h) }
 |n_+1=>{ m1:=fun p_p p_inside=>Mo.den (RV (uT n_) p_p p_inside),ok1:=ahb (uT n_) }
def Q58(p_p:aO)(p_inside:Bool):Option (Int):=(uT FU).m1 p_p p_inside
theorem ak3:U0 Q58:=(uT FU).ok1
def U1(p_p:aO):Mo (Int):=
 .cH [1] (akT p_p 1 0) fun r0 _=>
 .iB (!r0.1) (.ret (bn 1) (2))<|
 .cl (ak3 p_p false) fun r1 _=>
 .ret (bn 1) (r1)
def ahc(p_p:aO):Option (Int):=Mo.den (U1 p_p)
theorem ahd(p_p:aO):FV (ahc p_p) 118 [.dat (aO.lf1 p_p)] .i_:=dL Tryz.func118
def U2(p_v:ah):Mo (Bool):=
 .sf Tryz.f187 0 [1,0] 0 8 1 [(1,.ptr 0 0),(2,.b_ false)] [bK p_v] 10 (o9 p_v) fun r0=>
 .sb Tryz.f187 0 [1,0] 8 5 1 [(1,.ptr 0 0),(2,.b_ false)] [bK p_v] 10 15 r0 (pq p_v r0) fun r1=>
 .sb Tryz.f187 0 [1,0] 13 6 1 [(1,.ptr 0 0),(2,.b_ false)] [bK p_v] 15 21 r1 (ng p_v r1) fun r2=>
 .sk Tryz.f187 0 [1,0] 19 6 1 (fun r_=>⟨[(2,.b_ false),(27,.b_ r_)],[.dead]⟩) ⟨[(1,.ptr 0 0),(2,.b_ false),(21,.b_ r2)],[bK p_v]⟩ (ni p_v r2) fun r3=>
 .sk Tryz.f187 0 [1,0] 25 1 1 (fun r_=>⟨[(2,.b_ r3)],[.dead]⟩) ⟨[(2,.b_ false),(27,.b_ r3)],[.dead]⟩ (eX r3) fun r4=>
 .ret (bn 1) (r3)
def ahe(p_v:ah):Option (Bool):=Mo.den (U2 p_v)
theorem Xp(p_v:ah):FV (ahe p_v) 187 [.dat (ah.lf1 p_v)] .b_:=dL Tryz.func187
end
end Go.Proofs.YtflpefkohpjjpaaGreatDoor
set_option linter.unusedSimpArgs false
set_option linter.unusedVariables false
namespace Go.Proofs.YtflpefkohpjjpaaGreatDoor
open Go.RowKit
set_option maxRecDepth 20000
set_option maxHeartbeats 4000000
noncomputable section
def Gj(p_x:aS)(r0:Bool):Mo (Bool):=
 .aC 4020 (r0) [1,2,27] 1 (Xp p_x.fArg)
def U3(p_x:aS):Mo (Bool):=
 .sf Tryz.f188 0 [1,0] 0 9 1 [(1,.ptr 0 0),(2,.b_ false)] [fP p_x] 11 (rQ p_x) fun r0=>
 .sb Tryz.f188 0 [1,0] 9 5 1 [(1,.ptr 0 0),(2,.b_ false)] [fP p_x] 11 16 r0 (rU p_x r0) fun r1=>
 .sb Tryz.f188 0 [1,0] 14 6 1 [(1,.ptr 0 0),(2,.b_ false)] [fP p_x] 16 22 r1 (pJ p_x r1) fun r2=>
 .sb Tryz.f188 0 [1,0] 20 5 1 [(1,.ptr 0 0),(2,.b_ false)] [fP p_x] 22 27 r2 (Gj p_x r2) fun r3=>
 .sb Tryz.f188 0 [1,0] 25 5 1 [(1,.ptr 0 0),(2,.b_ false)] [fP p_x] 27 32 r3 (pK p_x r3) fun r4=>
 .sk Tryz.f188 0 [1,0] 30 6 1 (fun r_=>⟨[(2,.b_ false),(38,.b_ r_)],[.dead]⟩) ⟨[(1,.ptr 0 0),(2,.b_ false),(32,.b_ r4)],[fP p_x]⟩ (pO p_x r4) fun r5=>
 .sk Tryz.f188 0 [1,0] 36 1 1 (fun r_=>⟨[(2,.b_ r5)],[.dead]⟩) ⟨[(2,.b_ false),(38,.b_ r5)],[.dead]⟩ (eX r5) fun r6=>
 .ret (bn 1) (r5)
def ahf(p_x:aS):Option (Bool):=Mo.den (U3 p_x)
theorem ahg(p_x:aS):FV (ahf p_x) 188 [.dat (aS.lf1 p_x)] .b_:=dL Tryz.func188
def RX(p_p:aO)(r0:Bool):Mo (Bool):=
 .aC 4009 (r0) [1,2,16] 1 (Xp p_p.fArg)
def J9(p_p:aO)(r0:Bool):Mo (Bool):=
 .aC 4049 (r0) [1,2,56] 1 (ahg p_p.fExpr)
def acW(p_p:aO):Mo (Bool):=
 .sf Tryz.f119 0 [1,0] 0 9 1 [(1,.ptr 0 0),(2,.b_ false)] [eG p_p] 11 (EI p_p) fun r0=>
 .sb Tryz.f119 0 [1,0] 9 5 1 [(1,.ptr 0 0),(2,.b_ false)] [eG p_p] 11 16 r0 (RX p_p r0) fun r1=>
 .sb Tryz.f119 0 [1,0] 14 6 1 [(1,.ptr 0 0),(2,.b_ false)] [eG p_p] 16 22 r1 (zL p_p r1) fun r2=>
 .sb Tryz.f119 0 [1,0] 20 5 1 [(1,.ptr 0 0),(2,.b_ false)] [eG p_p] 22 27 r2 (zM p_p r2) fun r3=>
 .sb Tryz.f119 0 [1,0] 25 5 1 [(1,.ptr 0 0),(2,.b_ false)] [eG p_p] 27 32 r3 (zN p_p r3) fun r4=>
 .sb Tryz.f119 0 [1,0] 30 6 1 [(1,.ptr 0 0),(2,.b_ false)] [eG p_p] 32 38 r4 (zO p_p r4) fun r5=>
 .sb Tryz.f119 0 [1,0] 36 7 1 [(1,.ptr 0 0),(2,.b_ false)] [eG p_p] 38 45 r5 (zQ p_p r5) fun r6=>
 .sb Tryz.f119 0 [1,0] 43 6 1 [(1,.ptr 0 0),(2,.b_ false)] [eG p_p] 45 51 r6 (zT p_p r6) fun r7=>
 .sb Tryz.f119 0 [1,0] 49 5 1 [(1,.ptr 0 0),(2,.b_ false)] [eG p_p] 51 56 r7 (J9 p_p r7) fun r8=>
 .sk Tryz.f119 0 [1,0] 54 6 1 (fun r_=>⟨[(2,.b_ false),(62,.b_ r_)],[.dead]⟩) ⟨[(1,.ptr 0 0),(2,.b_ false),(56,.b_ r8)],[eG p_p]⟩ (zU p_p r8) fun r9=>
 .sk Tryz.f119 0 [1,0] 60 1 1 (fun r_=>⟨[(2,.b_ r9)],[.dead]⟩) ⟨[(2,.b_ false),(62,.b_ r9)],[.dead]⟩ (eX r9) fun r10=>
 .ret (bn 1) (r9)
def Q97(p_p:aO):Option (Bool):=Mo.den (acW p_p)
theorem ak4(p_p:aO):FV (Q97 p_p) 119 [.dat (aO.lf1 p_p)] .b_:=dL Tryz.func119
def Ko(p_x:aQ):Mo (Bool):=
 .oV 8003 (decide ((p_x.ay:Int)<1)) [1,16] 2 (decide ((3:Int)<p_x.ay))
def Kq(p_x:aQ):Mo (Bool):=
 .nu p_x.fQ bf.lf<|
 .iG 18004 ((p_x.fQ.length:Int)==0) (.rt [1,48] 2 (true))<|
 .iG 18008 (p_x.ay != 1) (.nu p_x.fQ bf.lf<|
 .iG 18013 (decide ((1:Int)<(p_x.fQ.length:Int))) (.rt [1,48] 2 (true))<|
 .gx bf.aW p_x.fQ 0 fun x0 _=>
 .oV 18020 (x0.rO) [1,48] 2 (p_x.dY))<|
 .rt [1,48] 2 (false)
def U4(p_x:aQ):Mo (Int):=
 .say [.at_ 4 3,.uy 1 ([p_x.fName].map lfS)] (ok1 (by simp[lfS]:[p_x.fName].map lfS=[(lfS p_x.fName)]))<|
 .cl (F7 [p_x.fName]) fun r0 _=>
 .iB (!r0) (.ret (bn 1) (9))<|
 .jk Tryz.f62 0 [1,1,0,0] 13 (fun r_=>⟨[(1,.ptr 0 0),(16,.b_ r_)],[tN p_x,.dead]⟩) ⟨[(1,.ptr 0 0)],[tN p_x,.dead]⟩ (Ko p_x) fun r1=>
 .iB (r1) (.ret (bn 1) (8))<|
 .cl (agW p_x.fQ) fun r2 _=>
 .iB (r2 != 0) (.ret (bn 1) (r2))<|
 .jk Tryz.f62 0 [1,1,1,1,0,0] 23 (fun r_=>⟨[(1,.ptr 0 0),(48,.b_ r_)],[tN p_x,.dead]⟩) ⟨[(1,.ptr 0 0)],[tN p_x,.dead]⟩ (Kq p_x) fun r3=>
 .iB (r3) (.ret (bn 1) (11))<|
 .iB (p_x.gB) (.cl (ahd p_x.bF) fun r4 _=>
 .ret (bn 1) (r4))<|
 .cl (ak4 p_x.bF) fun r5 _=>
 .iB (!r5) (.ret (bn 1) (4))<|
 .ret (bn 1) (0)
def ahh(p_x:aQ):Option (Int):=Mo.den (U4 p_x)
theorem Xq(p_x:aQ):FV (ahh p_x) 62 [.dat (aQ.lf1 p_x)] .i_:=dL Tryz.func62
def acX(p_x:aQ)(p_b0:ByteArray):Mo (Bool):=
 .ret ⟨[.kill 1],[0],[],1⟩ (decide ((p_x.fName:ByteArray)=(p_b0:ByteArray)))
def amT(p_x:aQ)(p_b0:ByteArray):Option (Bool):=Mo.den (acX p_x p_b0)
theorem ahi(p_x:aQ)(p_b0:ByteArray):FH (amT p_x p_b0) 181 [.dat (aQ.lf1 p_x),.ptr 0 0] [.box 9 (.dat [(.str p_b0)])] .b_ (fun _=>[.box 9 (.dat [(.str p_b0)])]):=dQ Tryz.func181
def RY(p_b0:ByteArray)(p_s:List aQ):(Int)→Mo ((Int)⊕(Int)⊕Unit):=fun(v0)=>
 .iB (decide ((v0:Int)<(p_s.length:Int))) (.gx aQ.aW p_s v0 fun x0 _=>
 .cH [0] (ahi x0 p_b0) fun r0 _=>
 .iB (r0) (.rt [4] 1 (.inr (.inl (v0))))<|
 .rt [0,1,7,8] 1 (.inl (IntKind.wrap .i64 (v0+1))))<|
 .rt [] 1 (.inr (.inr (())))
def ajm(p_s:List aQ)(p_b0:ByteArray):Mo (Int):=
 .nu p_s aQ.lf<|
 .l2 Tryz.f180 1 [1,0,1,0] 0 (fun(v0)=>⟨[(0,.lf (.rows 31 (p_s.map aQ.lf))),(1,.clo 181 [.ptr 0 0]),(7,.i_ (p_s.length:Int)),(8,.i_ v0)],[.box 9 (.dat [(.str p_b0)])]⟩) .ret (fun o_=>⟨[(4,.i_ o_)],[.box 9 (.dat [(.str p_b0)])]⟩) (.exit 0) (fun _=>⟨[],[.box 9 (.dat [(.str p_b0)])]⟩) (RY p_b0 p_s) (0) (fun o0=>
 .rt [0] 1 (o0)) fun o1=>
 .rt [0] 1 ((-1))
def Q98(p_s:List aQ)(p_b0:ByteArray):Option (Int):=Mo.den (ajm p_s p_b0)
theorem ak5(p_s:List aQ)(p_b0:ByteArray):FH (Q98 p_s p_b0) 180 [.lf (.rows 31 (p_s.map aQ.lf)),.clo 181 [.ptr 0 0]] [.box 9 (.dat [(.str p_b0)])] .i_ (fun _=>[.box 9 (.dat [(.str p_b0)])]):=dQ Tryz.func180
def acY(p_l:List aQ)(p_name:ByteArray):Mo (Int):=
 .cH [0] (ak5 p_l p_name) fun r0 _=>
 .ret (bn 1) (r0)
def ak6(p_l:List aQ)(p_name:ByteArray):Option (Int):=Mo.den (acY p_l p_name)
theorem ahj(p_l:List aQ)(p_name:ByteArray):FV (ak6 p_l p_name) 114 [.lf (.rows 31 (p_l.map aQ.lf)),.lf (.str p_name)] .i_:=dL Tryz.func114
def Gl(p_s:ByteArray):(Int)→Mo ((Int)⊕(Unit⊕Unit)):=fun(v0)=>
 .iB (decide ((v0:Int)<(p_s.size:Int))) (.sf Tryz.f301 0 [1,1,0,1,0,0,1,1,0,0,1,0] 0 10 6 [(0,.lf (.str p_s)),(3,.i_ v0),(18,.i_ (p_s.size:Int)),(19,.i_ v0)] [] 31 (lg p_s v0) fun r0=>
 .sk Tryz.f301 0 [1,1,0,1,0,0,1,1,0,0,1,0] 10 6 6 (fun r_=>⟨[(0,.lf (.str p_s)),(18,.i_ (p_s.size:Int)),(19,.i_ v0),(37,.b_ r_)],[]⟩) ⟨[(0,.lf (.str p_s)),(3,.i_ v0),(18,.i_ (p_s.size:Int)),(19,.i_ v0),(31,.b_ r0)],[]⟩ (lq p_s r0 v0) fun r1=>
 .iB (r1) (.rt [2] 0 (.inr (.inl ())))<|
 .rt [0,18,19] 0 (.inl (IntKind.wrap .i64 (v0+1))))<|
 .rt [] 0 (.inr (.inr (())))
def acZ(p_s:ByteArray):Mo (Bool):=
 .sf Tryz.f301 0 [1,0,0] 0 8 1 [(0,.lf (.str p_s))] [] 11 (lX p_s) fun r0=>
 .sb Tryz.f301 0 [1,0,0] 8 5 1 [(0,.lf (.str p_s))] [] 11 16 r0 (lY p_s r0) fun r1=>
 .iB (r1) (.ret (bn 1) (false))<|
 .l2 Tryz.f301 0 [1,1,0,1,0] 0 (fun(v0)=>⟨[(0,.lf (.str p_s)),(18,.i_ (p_s.size:Int)),(19,.i_ v0)],[]⟩) .ret (fun _=>⟨[(2,.b_ false)],[]⟩) (.exit 0) (fun _=>⟨[],[]⟩) (Gl p_s) (0) (fun o0=>
 .ret (bn 1) (false)) fun o1=>
 .ret (bn 1) (true)
def ahk(p_s:ByteArray):Option (Bool):=Mo.den (acZ p_s)
theorem Xr(p_s:ByteArray):FV (ahk p_s) 301 [.lf (.str p_s)] .b_:=dL Tryz.func301
def ac0(p_v:ah):Mo (Bool):=
 .aV 8003 (p_v.ay==0) [3,4,15] 1 (p_v.dG==0)
def ac1(p_v:ah)(r0:Bool):Mo (Bool):=
 .aV 8008 (r0) [3,4,20] 1 (decide ((p_v.fText:ByteArray)=(⟨#[]⟩:ByteArray)))
def Zh(p_v:ah)(r0:Bool):Mo (Bool):=
 .iG 8013 (r0) (.nu p_v.aU ah.lf<|
 .rt [3,4,26] 1 ((p_v.aU.length:Int)==0))<|
 .rt [3,4,26] 1 (false)
def Zi(p_v:ah)(r0:Bool):Mo (Bool):=
 .iG 8019 (r0) (.nu p_v.aY aJ.lf<|
 .ret ⟨[.kill 0],[4,32],[],1⟩ ((p_v.aY.length:Int)==0))<|
 .ret ⟨[.kill 0],[4,32],[],1⟩ (false)
def Zj(r0:Bool):Mo (Unit):=
 .rt [4] 1 ()
def ajn(p_has:Bool)(p_v:ah):Mo (Bool):=
 .iB (p_has) (.cl (ny p_v) fun r0 _=>
 .ret (bn 1) (r0))<|
 .sf Tryz.f302 0 [1,1,0] 0 8 3 [(3,.ptr 0 0),(4,.b_ false)] [bK p_v] 15 (ac0 p_v) fun r1=>
 .sb Tryz.f302 0 [1,1,0] 8 5 3 [(3,.ptr 0 0),(4,.b_ false)] [bK p_v] 15 20 r1 (ac1 p_v r1) fun r2=>
 .sb Tryz.f302 0 [1,1,0] 13 6 3 [(3,.ptr 0 0),(4,.b_ false)] [bK p_v] 20 26 r2 (Zh p_v r2) fun r3=>
 .sk Tryz.f302 0 [1,1,0] 19 6 3 (fun r_=>⟨[(4,.b_ false),(32,.b_ r_)],[.dead]⟩) ⟨[(3,.ptr 0 0),(4,.b_ false),(26,.b_ r3)],[bK p_v]⟩ (Zi p_v r3) fun r4=>
 .sk Tryz.f302 0 [1,1,0] 25 1 3 (fun r_=>⟨[(4,.b_ r4)],[.dead]⟩) ⟨[(4,.b_ false),(32,.b_ r4)],[.dead]⟩ (Zj r4) fun r5=>
 .ret (bn 1) (r4)
def Q96(p_has:Bool)(p_v:ah):Option (Bool):=Mo.den (ajn p_has p_v)
theorem ac2(p_has:Bool)(p_v:ah):FV (Q96 p_has p_v) 302 [.b_ p_has,.dat (ah.lf1 p_v)] .b_:=dL Tryz.func302
def RZ(m4820:List (ByteArray×Bool))(p_s:aI)(v0:Int)(x0:ByteArray):Mo (Bool):=
 .cl (Xr x0) fun r0 _=>
 .iG 12003 (!r0) (.rt [1,3,5,13,14,15,26] 2 (true))<|
 .say [.row [.bool (rP m4820 x0 false)]] (okc (rfl:Tryz.prog=Tryz.prog) (ok1 (BU _ _ _:mD (m4820.map mvB) x0 (.bool false)=(.bool (rP m4820 x0 false)))))<|
 .rt [1,3,5,13,14,15,26] 2 (rP m4820 x0 false)
def Si(p_s:aI):(Int×(List (ByteArray×Bool)))→Mo ((Int×(List (ByteArray×Bool)))⊕(Unit⊕Unit)):=fun(v0,m4820)=>
 .iB (decide ((v0:Int)<(p_s.dK.length:Int))) (.gx lS_ p_s.dK v0 fun x0 _=>
 .jk Tryz.f256 0 [1,1,0,1,0,0,1,1,0,0,1,0,0] 17 (fun r_=>⟨[(1,.ptr 0 0),(3,.mp 1),(5,.lf (.str x0)),(13,.lf (.rows 1 (p_s.dK.map lfS))),(14,.i_ (p_s.dK.length:Int)),(15,.i_ v0),(26,.b_ r_)],[jd p_s,.map Tryz.prog 9 4 (m4820.map mvB)]⟩) ⟨[(1,.ptr 0 0),(3,.mp 1),(5,.lf (.str x0)),(13,.lf (.rows 1 (p_s.dK.map lfS))),(14,.i_ (p_s.dK.length:Int)),(15,.i_ v0)],[jd p_s,.map Tryz.prog 9 4 (m4820.map mvB)]⟩ (RZ m4820 p_s v0 x0) fun r0=>
 .iB (r0) (.ret ⟨[.kill 0,.kill 1],[2],[],2⟩ (.inr (.inl ())))<|
 .say [] (ok1 (rfl:Tryz.prog=Tryz.prog))<|
 .grd (m4820.length<maxLen) fun h0=>
 .say [] (ok1 (by simpa using h0:(m4820.map mvB).length<maxLen))<|
 .rt [1,3,13,14,15] 2 (.inl (IntKind.wrap .i64 (v0+1),(x0,true)::m4820)))<|
 .ret ⟨[.kill 1],[1],[],2⟩ (.inr (.inr (())))
def Kr(m4894:List (ByteArray×Bool))(p_s:aI)(v0:Int)(x0:bH):Mo (Bool):=
 .cl (Xr x0.fName) fun r0 _=>
 .iG 28004 (!r0) (.rt [1,6,8,32,33,34,47] 4 (true))<|
 .say [.row [.bool (rP m4894 x0.fName false)]] (okc (rfl:Tryz.prog=Tryz.prog) (ok1 (BU _ _ _:mD (m4894.map mvB) x0.fName (.bool false)=(.bool (rP m4894 x0.fName false)))))<|
 .rt [1,6,8,32,33,34,47] 4 (rP m4894 x0.fName false)
def Kt(p_s:aI):(Int×(List (ByteArray×Bool)))→Mo ((Int×(List (ByteArray×Bool)))⊕(Unit⊕Unit)):=fun(v0,m4894)=>
 .iB (decide ((v0:Int)<(p_s.dN.length:Int))) (.gx bH.aW p_s.dN v0 fun x0 _=>
 .jk Tryz.f256 0 [1,1,1,1,0,1,0,0,1,1,0,0,1,0,0] 33 (fun r_=>⟨[(1,.ptr 0 0),(6,.mp 2),(8,.ptr 3 0),(32,.lf (.rows 22 (p_s.dN.map bH.lf))),(33,.i_ (p_s.dN.length:Int)),(34,.i_ v0),(47,.b_ r_)],[jd p_s,.dead,.map Tryz.prog 9 4 (m4894.map mvB),.box 224 (.agg ((bH.lf1 x0).map AV.lf))]⟩) ⟨[(1,.ptr 0 0),(6,.mp 2),(8,.ptr 3 0),(32,.lf (.rows 22 (p_s.dN.map bH.lf))),(33,.i_ (p_s.dN.length:Int)),(34,.i_ v0)],[jd p_s,.dead,.map Tryz.prog 9 4 (m4894.map mvB),.box 224 (.agg ((bH.lf1 x0).map AV.lf))]⟩ (Kr m4894 p_s v0 x0) fun r0=>
 .iB (r0) (.ret ⟨[.kill 0,.kill 2],[2],[],3⟩ (.inr (.inl ())))<|
 .say [] (ok1 (rfl:Tryz.prog=Tryz.prog))<|
 .grd (m4894.length<maxLen) fun h0=>
 .say [] (ok1 (by simpa using h0:(m4894.map mvB).length<maxLen))<|
 .rt [1,6,32,33,34] 3 (.inl (IntKind.wrap .i64 (v0+1),(x0.fName,true)::m4894)))<|
 .ret ⟨[.kill 2],[1],[],3⟩ (.inr (.inr (())))
def Ku(p_s:aI):Mo (Bool):=
 .oV 36004 ((dU .andNot .i64 p_s.jF 4094) != 0) [1,60] 3 (decide ((p_s.iU:Int)<0))
def Kv(p_s:aI)(r0:Bool):Mo (Bool):=
 .oV 36009 (r0) [1,65] 3 (decide ((p_s.iV:Int)<(-1)))
def Kw(p_s:aI)(r0:Bool):Mo (Bool):=
 .iG 36014 (r0) (.rt [1,71] 3 (true))<|
 .nu p_s.dP aI.lf<|
 .rt [1,71] 3 (decide ((1:Int)<(p_s.dP.length:Int)))
def Ky(p_s:aI):Mo (Bool):=
 .cl (ac2 p_s.iQ p_s.kE) fun r0 _=>
 .iG 40006 (!r0) (.rt [1,85] 3 (true))<|
 .cl (ac2 p_s.iR p_s.kF) fun r1 _=>
 .rt [1,85] 3 (!r1)
def Kz(p_s:aI):(Int)→Mo ((Int)⊕(Unit⊕Unit)):=fun(v0)=>
 .iB (decide ((v0:Int)<(p_s.jL.length:Int))) (.gx ah.aW p_s.jL v0 fun x0 _=>
 .cl (ny x0) fun r0 _=>
 .iB (!r0) (.rt [2] 3 (.inr (.inl ())))<|
 .rt [87,88,89] 3 (.inl (IntKind.wrap .i64 (v0+1))))<|
 .rt [] 3 (.inr (.inr (())))
def ajo(p_s:aI):Mo (Int):=
 .nu p_s.dK lfS<|
 .l2 Tryz.f256 0 [1,1,0,1,0] 0 (fun(v0,m4820)=>⟨[(1,.ptr 0 0),(3,.mp 1),(13,.lf (.rows 1 (p_s.dK.map lfS))),(14,.i_ (p_s.dK.length:Int)),(15,.i_ v0)],[jd p_s,.map Tryz.prog 9 4 (m4820.map mvB)]⟩) .ret (fun _=>⟨[(2,.i_ 9)],[.dead,.dead]⟩) (.exit 0) (fun _=>⟨[(1,.ptr 0 0)],[jd p_s,.dead]⟩) (Si p_s) (0,([]:List (ByteArray×Bool))) (fun o0=>
 .ret (bn 1) (9)) fun o1=>
 .nu p_s.dN bH.lf<|
 .l2 Tryz.f256 0 [1,1,1,1,0,1,0] 0 (fun(v1,m4894)=>⟨[(1,.ptr 0 0),(6,.mp 2),(32,.lf (.rows 22 (p_s.dN.map bH.lf))),(33,.i_ (p_s.dN.length:Int)),(34,.i_ v1)],[jd p_s,.dead,.map Tryz.prog 9 4 (m4894.map mvB)]⟩) .ret (fun _=>⟨[(2,.i_ 9)],[.dead,.dead,.dead]⟩) (.exit 2) (fun _=>⟨[(1,.ptr 0 0)],[jd p_s,.dead,.dead]⟩) (Kt p_s) (0,([]:List (ByteArray×Bool))) (fun o2=>
 .ret (bn 1) (9)) fun o3=>
 .sf Tryz.f256 0 [1,1,1,1,1,0,0] 0 9 17 [(1,.ptr 0 0)] [jd p_s,.dead,.dead] 60 (Ku p_s) fun r0=>
 .sb Tryz.f256 0 [1,1,1,1,1,0,0] 9 5 17 [(1,.ptr 0 0)] [jd p_s,.dead,.dead] 60 65 r0 (Kv p_s r0) fun r1=>
 .sb Tryz.f256 0 [1,1,1,1,1,0,0] 14 6 17 [(1,.ptr 0 0)] [jd p_s,.dead,.dead] 65 71 r1 (Kw p_s r1) fun r2=>
 .iB (r2) (.ret (bn 1) (1))<|
 .jk Tryz.f256 0 [1,1,1,1,1,1,0,0] 45 (fun r_=>⟨[(1,.ptr 0 0),(85,.b_ r_)],[jd p_s,.dead,.dead]⟩) ⟨[(1,.ptr 0 0)],[jd p_s,.dead,.dead]⟩ (Ky p_s) fun r3=>
 .iB (r3) (.ret (bn 1) (8))<|
 .nu p_s.jL ah.lf<|
 .l2y [.kill 0] Tryz.f256 0 [1,1,1,1,1,1,1,0,1,0] 0 (fun(v2)=>⟨[(87,.lf (.rows 5 (p_s.jL.map ah.lf))),(88,.i_ (p_s.jL.length:Int)),(89,.i_ v2)],[.dead,.dead,.dead]⟩) .ret (fun _=>⟨[(2,.i_ 8)],[.dead,.dead,.dead]⟩) (.exit 4) (fun _=>⟨[],[.dead,.dead,.dead]⟩) (Kz p_s) (0) (fun o4=>
 .ret (bn 1) (8)) fun o5=>
 .ret (bn 1) (0)
def Q25(p_s:aI):Option (Int):=Mo.den (ajo p_s)
theorem ak7(p_s:aI):FV (Q25 p_s) 256 [.dat (aI.lf1 p_s)] .i_:=dL Tryz.func256
abbrev ND(m:aI→Int→Int→Option (Int×Int)):Prop:=∀p_s p_level p_b0,FH (m p_s p_level p_b0) 182 [.dat (aI.lf1 p_s),.i_ p_level,.ptr 0 0] [.box 3 (.dat [(.int .i64 p_b0)])] (fun r=>.i_ r.1) (fun r=>[.box 3 (.dat [(.int .i64 r.2)])])
structure Zk where
 m1:(p_s:aI)→(p_level:Int)→(p_b0:Int)→Option (Int×Int)
 ok1:ND m1
def Gm(R_:Zk)(p_b0:Int)(p_level:Int)(p_s:aI):Mo (Bool):=
 .oV 4002 (decide ((16:Int)<p_level)) [1,2,3,21] 2 (p_b0==64)
def uU(R_:Zk)(p_level:Int)(p_s:aI):(Int×Int)→Mo ((Int×Int)⊕(Int×Int)⊕(Int)):=fun(v0,v1)=>
 .iB (decide ((v0:Int)<(p_s.dN.length:Int))) (.gx bH.aW p_s.dN v0 fun x0 _=>
 .say [.at_ 22 5,.tod 40] ok0<|
 .cH [0] (R_.ok1 x0.aZ (IntKind.wrap .i64 (p_level+1)) v1) fun r0 _=>
 .iB (r0.1 != 0) (.ret ⟨[.kill 1],[6],[],2⟩ (.inr (.inl (r0.1,r0.2))))<|
 .rt [1,2,3,33,34,35] 2 (.inl (IntKind.wrap .i64 (v0+1),r0.2)))<|
 .rt [1,2,3] 2 (.inr (.inr (v1)))
def rV(R_:Zk)(p_level:Int)(p_s:aI):(Int×Int)→Mo ((Int×Int)⊕(Int×Int)⊕(Int)):=fun(v0,v1)=>
 .iB (decide ((v0:Int)<(p_s.dP.length:Int))) (.gx aI.aW p_s.dP v0 fun x0 _=>
 .say [.at_ 36 4,.tod 56] ok0<|
 .cH [0] (R_.ok1 x0 (IntKind.wrap .i64 (p_level+1)) v1) fun r0 _=>
 .iB (r0.1 != 0) (.rt [6] 2 (.inr (.inl (r0.1,r0.2))))<|
 .rt [1,2,50,51,52] 2 (.inl (IntKind.wrap .i64 (v0+1),r0.2)))<|
 .rt [] 2 (.inr (.inr (v1)))
def Sj(R_:Zk)(p_s:aI)(p_level:Int)(p_b0:Int):Mo (Int×Int):=
 .jk Tryz.f182 1 [1,0,0] 9 (fun r_=>⟨[(1,.i_ p_level),(2,.ptr 0 0),(3,.ptr 1 0),(21,.b_ r_)],[.box 3 (.dat [(.int .i64 p_b0)]),jd p_s]⟩) ⟨[(1,.i_ p_level),(2,.ptr 0 0),(3,.ptr 1 0)],[.box 3 (.dat [(.int .i64 p_b0)]),jd p_s]⟩ (Gm R_ p_b0 p_level p_s) fun r0=>
 .iB (r0) (.ret ⟨[.kill 1],[0],[],1⟩ (2,p_b0))<|
 .cl (ak7 p_s) fun r1 _=>
 .iB (r1 != 0) (.ret ⟨[.kill 1],[0],[],1⟩ (r1,IntKind.wrap .i64 (p_b0+1)))<|
 .nu p_s.dN bH.lf<|
 .l2 Tryz.f182 1 [1,1,1,1,0,1,0] 0 (fun(v0,v1)=>⟨[(1,.i_ p_level),(2,.ptr 0 0),(3,.ptr 1 0),(33,.lf (.rows 22 (p_s.dN.map bH.lf))),(34,.i_ (p_s.dN.length:Int)),(35,.i_ v0)],[.box 3 (.dat [(.int .i64 v1)]),jd p_s]⟩) .ret (fun o_=>⟨[(6,.i_ o_.1)],[.box 3 (.dat [(.int .i64 o_.2)]),.dead]⟩) (.exit 0) (fun o_=>⟨[(1,.i_ p_level),(2,.ptr 0 0),(3,.ptr 1 0)],[.box 3 (.dat [(.int .i64 o_)]),jd p_s]⟩) (uU R_ p_level p_s) (0,(IntKind.wrap .i64 (p_b0+1))) (fun o0=>
 .rt [0] 1 (o0.1,o0.2)) fun o1=>
 .nu p_s.dP aI.lf<|
 .l2y [.kill 1] Tryz.f182 1 [1,1,1,1,1,0,1,0] 0 (fun(v2,v3)=>⟨[(1,.i_ p_level),(2,.ptr 0 0),(50,.lf (.rows 21 (p_s.dP.map aI.lf))),(51,.i_ (p_s.dP.length:Int)),(52,.i_ v2)],[.box 3 (.dat [(.int .i64 v3)]),.dead]⟩) .ret (fun o_=>⟨[(6,.i_ o_.1)],[.box 3 (.dat [(.int .i64 o_.2)]),.dead]⟩) (.exit 2) (fun o_=>⟨[],[.box 3 (.dat [(.int .i64 o_)]),.dead]⟩) (rV R_ p_level p_s) (0,o1) (fun o2=>
 .rt [0] 1 (o2.1,o2.2)) fun o3=>
 .rt [0] 1 (0,o3)
theorem ahl(R_:Zk):ND fun p_s p_level p_b0=>Mo.den (Sj R_ p_s p_level p_b0):=fun _ _ _=>dQ Tryz.func182
def nU:Nat→Zk
 |0=>{ m1:=fun p_s p_level p_b0=>none,ok1:=fun _ _ _ _ h=>(by cases h) }
 |n_+1=>{ m1:=fun p_s p_level p_b0=>Mo.den (Sj (nU n_) p_s p_level p_b0),ok1:=ahl (nU n_) }
def Q47(p_s:aI)(p_level:Int)(p_b0:Int):Option (Int×Int):=(nU FU).m1 p_s p_level p_b0
theorem ak8:ND Q47:=(nU FU).ok1
def U5(p_s:aI):Mo (Int):=
 .cH [1] (ak8 p_s 1 0) fun r0 _=>
 .ret (bn 1) (r0.1)
def ak9(p_s:aI):Option (Int):=Mo.den (U5 p_s)
theorem ahm(p_s:aI):FV (ak9 p_s) 115 [.dat (aI.lf1 p_s)] .i_:=dL Tryz.func115
def uV(p_d:bY):(Int)→Mo ((Int)⊕(Int)⊕Unit):=fun(v0)=>
 .iB (decide ((v0:Int)<(p_d.bZ.length:Int))) (.gx aQ.aW p_d.bZ v0 fun x0 _=>
 .cl (Xq x0) fun r0 _=>
 .iB (r0 != 0) (.ret ⟨[.kill 0],[2],[],1⟩ (.inr (.inl (r0))))<|
 .say [] (ok1 (by first|(simp[aQ.aW];done)|exact FC _ _ _:(p_d.bZ.take v0.toNat).map aQ.lf=((p_d.bZ.map aQ.lf).take v0.toNat).drop (0:Int).toNat))<|
 .grd ((0:Int)≤0∧0≤v0∧v0≤(p_d.bZ.length:Int)) fun h0=>
 .say [] (ok1 (by simpa using h0:(0:Int)≤0∧0≤v0∧v0≤((p_d.bZ.map aQ.lf).length:Int)))<|
 .ask (ak6 (p_d.bZ.take v0.toNat) x0.fName) fun r1 h1=>
 .say [.kC (.q 0 (.q 1 (.q 2 (.q 3 (.q 4 (.q 5 (.l 6 (.q 7 .fin)))))))) (some 6) [] [.rows ((p_d.bZ.take v0.toNat).map aQ.lf),.res (.i_ r1)] [1,15,16,17,34] 2 [(1,.ptr 0 0),(15,.lf (.rows 31 (p_d.bZ.map aQ.lf))),(16,.i_ (p_d.bZ.length:Int)),(17,.i_ v0),(34,.lf (.bool (decide ((0:Int)≤r1))))] [qI p_d,.box 45 (.agg ((aQ.lf1 x0).map AV.lf))]] (okc (ahj _ _ _ h1) (ok1 (rf_ ⟨[(1,.ptr 0 0),(15,.lf (.rows 31 (p_d.bZ.map aQ.lf))),(16,.i_ (p_d.bZ.length:Int)),(17,.i_ v0),(34,.lf (.bool (decide ((0:Int)≤r1))))],[qI p_d,.box 45 (.agg ((aQ.lf1 x0).map AV.lf))]⟩)))<|
 .iB (decide ((0:Int)≤r1)) (.ret ⟨[.kill 0],[2],[],1⟩ (.inr (.inl (16))))<|
 .rt [1,15,16,17] 1 (.inl (IntKind.wrap .i64 (v0+1))))<|
 .rt [1] 1 (.inr (.inr (())))
def Sl(p_d:bY):Mo (Bool):=
 .oV 30003 (decide ((p_d.kG:Int)<0)) [1,43] 1 (decide ((2:Int)<p_d.kG))
def KA(p_d:bY):Mo (Bool):=
 .aV 34003 (p_d.iJ != 0) [1,51] 1 (p_d.iJ != 1)
def ac3(p_d:bY):Mo (Int):=
 .cl (akP p_d.fName) fun r0 _=>
 .iB (!r0) (.ret (bn 1) (9))<|
 .nu p_d.bZ aQ.lf<|
 .iB (decide ((16:Int)<(p_d.bZ.length:Int))) (.ret (bn 1) (2))<|
 .nu p_d.bZ aQ.lf<|
 .l2 Tryz.f61 0 [1,1,1,0,1,0] 0 (fun(v0)=>⟨[(1,.ptr 0 0),(15,.lf (.rows 31 (p_d.bZ.map aQ.lf))),(16,.i_ (p_d.bZ.length:Int)),(17,.i_ v0)],[qI p_d]⟩) .ret (fun o_=>⟨[(2,.i_ o_)],[.dead]⟩) (.exit 0) (fun _=>⟨[(1,.ptr 0 0)],[qI p_d]⟩) (uV p_d) (0) (fun o0=>
 .ret (bn 1) (o0)) fun o1=>
 .jk Tryz.f61 0 [1,1,1,1,0,0] 35 (fun r_=>⟨[(1,.ptr 0 0),(43,.b_ r_)],[qI p_d]⟩) ⟨[(1,.ptr 0 0)],[qI p_d]⟩ (Sl p_d) fun r1=>
 .iB (r1) (.ret (bn 1) (1))<|
 .jk Tryz.f61 0 [1,1,1,1,1,0,0] 39 (fun r_=>⟨[(1,.ptr 0 0),(51,.b_ r_)],[qI p_d]⟩) ⟨[(1,.ptr 0 0)],[qI p_d]⟩ (KA p_d) fun r2=>
 .iB (r2) (.ret (bn 1) (1))<|
 .cl (ahm p_d.aZ) fun r3 _=>
 .ret (bn 1) (r3)
def Q69(p_d:bY):Option (Int):=Mo.den (ac3 p_d)
theorem ala(p_d:bY):FV (Q69 p_d) 61 [.dat (bY.lf1 p_d)] .i_:=dL Tryz.func61
abbrev U6(m:au→Int→Int→Option (Int)):Prop:=∀p_w p_least p_greatest,FV (m p_w p_least p_greatest) 30 [.dat (au.lf1 p_w),.i_ p_least,.i_ p_greatest] .i_
structure RB1 where
 m1:(p_w:au)→(p_least:Int)→(p_greatest:Int)→Option (Int)
 ok1:U6 m1
def NG(R_:RB1)(p_greatest:Int)(p_least:Int)(p_w:au)(r0:aN):Mo (Bool):=
 .oV 6004 (decide ((p_w.ay:Int)<p_least)) [2,3,7,24] 2 (decide ((p_greatest:Int)<p_w.ay))
def NH(R_:RB1)(p_greatest:Int)(p_w:au)(r0:aN)(r1:Bool):Mo (Bool):=
 .iG 6010 (r1) (.rt [2,3,7,29] 2 (true))<|
 .cl (akG p_w) fun r2 _=>
 .rt [2,3,7,29] 2 (!r2)
def Gn(R_:RB1)(p_greatest:Int)(p_w:au)(r0:aN)(r1:Bool):Mo (Bool):=
 .iG 6015 (r1) (.rt [2,3,7,39] 2 (true))<|
 .iG 6018 (r0.lN) (.nu p_w.bQ au.lf<|
 .rt [2,3,7,39] 2 ((p_w.bQ.length:Int)==0))<|
 .rt [2,3,7,39] 2 (false)
def Sm(R_:RB1)(p_greatest:Int)(p_w:au)(r0:aN):Mo (Bool):=
 .iG 14002 (r0.nR) (.cl (WZ p_w.fE) fun r1 _=>
 .rt [2,3,7,51] 2 (!r1))<|
 .rt [2,3,7,51] 2 (false)
def Sr(R_:RB1)(p_greatest:Int)(p_w:au)(r0:aN)(r1:Bool):Mo (Bool):=
 .iG 14008 (r1) (.rt [2,3,7,61] 2 (true))<|
 .iG 14011 (r0.BL) (.cl (WZ p_w.kX) fun r2 _=>
 .rt [2,3,7,61] 2 (!r2))<|
 .rt [2,3,7,61] 2 (false)
def Sv(R_:RB1)(p_greatest:Int)(p_w:au)(r0:aN)(r1:Bool):Mo (Bool):=
 .iG 14018 (r1) (.rt [2,3,7,72] 2 (true))<|
 .iG 14021 (r0.iF) (.cl (WZ p_w.aX.fName) fun r2 _=>
 .rt [2,3,7,72] 2 (!r2))<|
 .rt [2,3,7,72] 2 (false)
def Sz(R_:RB1)(p_greatest:Int)(p_w:au)(r0:aN):Mo (Bool):=
 .iG 18002 (r0.nS) (.cl (agD p_w) fun r1 _=>
 .rt [2,3,7,79] 2 (!r1))<|
 .rt [2,3,7,79] 2 (false)
def SA(R_:RB1)(p_greatest:Int)(p_w:au)(r0:aN)(r1:Bool):Mo (Bool):=
 .iG 18007 (r1) (.rt [2,3,7,89] 2 (true))<|
 .iG 18010 (r0.lQ) (.cl (akH p_w.dI) fun r2 _=>
 .rt [2,3,7,89] 2 (!r2))<|
 .rt [2,3,7,89] 2 (false)
def Gp(R_:RB1)(p_greatest:Int)(p_w:au)(r0:aN):Mo ((Int)⊕Unit):=
 .iB (r0.yw) (.cl (agS p_w) fun r1 _=>
 .iB (r1 != 0) (.ret ⟨[.kill 0],[6],[],2⟩ (.inl (r1)))<|
 .rt [2,3] 2 (.inr (())))<|
 .rt [2,3] 2 (.inr (()))
def Gq(R_:RB1)(p_greatest:Int)(p_w:au):Mo ((Int)⊕(Int)):=
 .iB (p_w.ay==4) (.cl (ala p_w.dB) fun r0 _=>
 .ret ⟨[.kill 0],[6],[],2⟩ (.inl (r0)))<|
 .iB (p_w.ay==6) (.cl (Xq p_w.aX) fun r1 _=>
 .ret ⟨[.kill 0],[6],[],2⟩ (.inl (r1)))<|
 .iB (p_w.ay==8) (.rt [2,3] 2 (.inr (7)))<|
 .iB (p_w.ay==9) (.rt [2,3] 2 (.inr (3)))<|
 .rt [2,3] 2 (.inr (p_greatest))
def uX(R_:RB1)(o0:Int)(p_w:au):(Int)→Mo ((Int)⊕(Int)⊕Unit):=fun(v0)=>
 .iB (decide ((v0:Int)<(p_w.bQ.length:Int))) (.gx au.aW p_w.bQ v0 fun x0 _=>
 .cl (R_.ok1 x0 2 o0) fun r0 _=>
 .iB (r0 != 0) (.rt [6] 2 (.inr (.inl (r0))))<|
 .rt [2,114,115,116] 2 (.inl (IntKind.wrap .i64 (v0+1))))<|
 .rt [] 2 (.inr (.inr (())))
def ac4(R_:RB1)(p_w:au)(p_least:Int)(p_greatest:Int):Mo (Int):=
 .cl (W9 p_w.ay) fun r0 _=>
 .sk Tryz.f30 0 [1,1,0,0] 0 10 2 (fun r_=>⟨[(2,.i_ p_greatest),(3,.ptr 0 0),(7,.ptr 1 0),(24,.b_ r_)],[fA p_w,.box 104 (.agg ((aN.lf1 r0).map AV.lf))]⟩) ⟨[(1,.i_ p_least),(2,.i_ p_greatest),(3,.ptr 0 0),(7,.ptr 1 0)],[fA p_w,.box 104 (.agg ((aN.lf1 r0).map AV.lf))]⟩ (NG R_ p_greatest p_least p_w r0) fun r1=>
 .sb Tryz.f30 0 [1,1,0,0] 10 5 2 [(2,.i_ p_greatest),(3,.ptr 0 0),(7,.ptr 1 0)] [fA p_w,.box 104 (.agg ((aN.lf1 r0).map AV.lf))] 24 29 r1 (NH R_ p_greatest p_w r0 r1) fun r2=>
 .sb Tryz.f30 0 [1,1,0,0] 15 10 2 [(2,.i_ p_greatest),(3,.ptr 0 0),(7,.ptr 1 0)] [fA p_w,.box 104 (.agg ((aN.lf1 r0).map AV.lf))] 29 39 r2 (Gn R_ p_greatest p_w r0 r2) fun r3=>
 .iB (r3) (.ret (bn 1) (11))<|
 .nu p_w.bQ au.lf<|
 .iB (decide ((256:Int)<(p_w.bQ.length:Int))) (.ret (bn 1) (2))<|
 .sf Tryz.f30 0 [1,1,1,1,0,0] 0 8 6 [(2,.i_ p_greatest),(3,.ptr 0 0),(7,.ptr 1 0)] [fA p_w,.box 104 (.agg ((aN.lf1 r0).map AV.lf))] 51 (Sm R_ p_greatest p_w r0) fun r4=>
 .sb Tryz.f30 0 [1,1,1,1,0,0] 8 10 6 [(2,.i_ p_greatest),(3,.ptr 0 0),(7,.ptr 1 0)] [fA p_w,.box 104 (.agg ((aN.lf1 r0).map AV.lf))] 51 61 r4 (Sr R_ p_greatest p_w r0 r4) fun r5=>
 .sb Tryz.f30 0 [1,1,1,1,0,0] 18 11 6 [(2,.i_ p_greatest),(3,.ptr 0 0),(7,.ptr 1 0)] [fA p_w,.box 104 (.agg ((aN.lf1 r0).map AV.lf))] 61 72 r5 (Sv R_ p_greatest p_w r0 r5) fun r6=>
 .iB (r6) (.ret (bn 1) (9))<|
 .sf Tryz.f30 0 [1,1,1,1,1,0,0] 0 7 8 [(2,.i_ p_greatest),(3,.ptr 0 0),(7,.ptr 1 0)] [fA p_w,.box 104 (.agg ((aN.lf1 r0).map AV.lf))] 79 (Sz R_ p_greatest p_w r0) fun r7=>
 .sb Tryz.f30 0 [1,1,1,1,1,0,0] 7 10 8 [(2,.i_ p_greatest),(3,.ptr 0 0),(7,.ptr 1 0)] [fA p_w,.box 104 (.agg ((aN.lf1 r0).map AV.lf))] 79 89 r7 (SA R_ p_greatest p_w r0 r7) fun r8=>
 .iB (r8) (.ret (bn 1) (1))<|
 .j2 [.kill 1] Tryz.f30 0 [1,1,1,1,1,1,0,1] 1 .ret (fun o_=>⟨[(6,.i_ o_)],[.dead,.dead]⟩) .normal (fun _=>⟨[(2,.i_ p_greatest),(3,.ptr 0 0)],[fA p_w,.dead]⟩) ⟨[(2,.i_ p_greatest),(3,.ptr 0 0),(91,.b_ r0.yw)],[fA p_w,.dead]⟩ (Gp R_ p_greatest p_w r0) (fun o0=>
 .ret (bn 1) (o0)) fun o1=>
 .j2 [] Tryz.f30 0 [1,1,1,1,1,1,1,0,1] 6 .ret (fun o_=>⟨[(6,.i_ o_)],[.dead,.dead]⟩) .normal (fun o_=>⟨[(2,.i_ o_),(3,.ptr 0 0)],[fA p_w,.dead]⟩) ⟨[(2,.i_ p_greatest),(3,.ptr 0 0),(98,.i_ p_w.ay)],[fA p_w,.dead]⟩ (Gq R_ p_greatest p_w) (fun o2=>
 .ret (bn 1) (o2)) fun o3=>
 .nu p_w.bQ au.lf<|
 .l2y [.kill 0] Tryz.f30 0 [1,1,1,1,1,1,1,1,0,1,0] 0 (fun(v0)=>⟨[(2,.i_ o3),(114,.lf (.rows 78 (p_w.bQ.map au.lf))),(115,.i_ (p_w.bQ.length:Int)),(116,.i_ v0)],[.dead,.dead]⟩) .ret (fun o_=>⟨[(6,.i_ o_)],[.dead,.dead]⟩) (.exit 1) (fun _=>⟨[],[.dead,.dead]⟩) (uX R_ o3 p_w) (0) (fun o4=>
 .ret (bn 1) (o4)) fun o5=>
 .ret (bn 1) (0)
theorem alb(R_:RB1):U6 fun p_w p_least p_greatest=>Mo.den (ac4 R_ p_w p_least p_greatest):=fun _ _ _=>dL Tryz.func30
def mO:Nat→RB1
 |0=>{ m1:=fun p_w p_least p_greatest=>none,ok1:=fun _ _ _ _ h=>(by cases h) }
 |n_+1=>{ m1:=fun p_w p_least p_greatest=>Mo.den (ac4 (mO n_) p_w p_least p_greatest),ok1:=alb (mO n_) }
def Q5(p_w:au)(p_least:Int)(p_greatest:Int):Option (Int):=(mO FU).m1 p_w p_least p_greatest
theorem amU:U6 Q5:=(mO FU).ok1
def ac5(p_e:bW):Mo (Bool):=
 .oV 8003 (decide ((p_e.dO:Int)<1)) [1,13] 1 (decide ((1099511627776:Int)<p_e.dO))
def ac6(p_e:bW)(r0:Bool):Mo (Bool):=
 .oV 8008 (r0) [1,18] 1 (decide ((p_e.lM:Int)<0))
def Zl(p_e:bW):Mo (Bool):=
 .iG 12003 (!decide ((p_e.jq:ByteArray)=(⟨#[]⟩:ByteArray))) (.cl (WZ p_e.jq) fun r0 _=>
 .rt [1,27] 1 (!r0))<|
 .rt [1,27] 1 (false)
def ac7(p_e:bW):Mo (Int):=
 .iB (decide ((p_e.nM:Int)<0)) (.ret (bn 1) (24))<|
 .sf Tryz.f11 0 [1,1,0,0] 0 8 3 [(1,.ptr 0 0)] [xR p_e] 13 (ac5 p_e) fun r0=>
 .sb Tryz.f11 0 [1,1,0,0] 8 5 3 [(1,.ptr 0 0)] [xR p_e] 13 18 r0 (ac6 p_e r0) fun r1=>
 .iB (r1) (.ret (bn 1) (1))<|
 .jk Tryz.f11 0 [1,1,1,0,0] 17 (fun r_=>⟨[(1,.ptr 0 0),(27,.b_ r_)],[xR p_e]⟩) ⟨[(1,.ptr 0 0)],[xR p_e]⟩ (Zl p_e) fun r2=>
 .iB (r2) (.ret (bn 1) (9))<|
 .cl (amU p_e.fG 1 12) fun r3 _=>
 .ret (bn 1) (r3)
def Q86(p_e:bW):Option (Int):=Mo.den (ac7 p_e)
theorem NI(p_e:bW):FV (Q86 p_e) 11 [.dat (bW.lf1 p_e)] .i_:=dL Tryz.func11
def oG :(Int×(List Int))→Mo ((Int×(List Int))⊕(Int×(List Int))):=fun(v0,l0)=>
 .iB (decide ((128:Int)≤v0)) (.say [.rows ((l0++[dU .or .u8 (IntKind.wrap .u8 v0) 128]).map (lfK .u8))] (ok1 (by simp[lfI,lfK]:(l0++[dU .or .u8 (IntKind.wrap .u8 v0) 128]).map (lfK .u8)=(l0.map (lfK .u8))++[((lfK .u8) (dU .or .u8 (IntKind.wrap .u8 v0) 128))]))<|
 .grd ((l0.length+[dU .or .u8 (IntKind.wrap .u8 v0) 128].length)*1≤140737488355328) fun h0=>
 .say [] (okc (by simpa using h0:((l0.map (lfK .u8)).length+[((lfK .u8) (dU .or .u8 (IntKind.wrap .u8 v0) 128))].length)*1≤140737488355328) (ok1 (by decide:(0:Int)≤7)))<|
 .ret ⟨[],[0,5],[(2,0)],1⟩ (.inl (tX .u64 v0 7,l0++[dU .or .u8 (IntKind.wrap .u8 v0) 128])))<|
 .rt [0,5] 1 (.inr (v0,l0))
def NJ(v0:Int)(l0:List Int):Option ((Int×(List Int))):=dM (fun v_=>(oG  v_).den) FU (v0,l0)
def ac8(p_n:Int):Mo (List Int):=
 .ask (YV p_n) fun r0 h0=>
 .say [.res (.lf (.int .u64 r0))] (okc (Nv _ _ h0) (ok1 (by simp[lfI,lfK]:(([]:List Int).map (lfK .u8))=[])))<|
 .l1m [.rG 0 5 1,.kU 0 (([]:List Int).map (lfK .u8))] Tryz.f131 0 [1,1,0,0] 0 (.exit 0) (fun(v0,l0)=>⟨[(0,.own 0),(5,.lf (.int .u64 v0))],[.row 5 1 (l0.map (lfK .u8))]⟩) (fun r_=>⟨[(0,.own 0),(5,.lf (.int .u64 r_.1))],[.row 5 1 (r_.2.map (lfK .u8))]⟩) (NJ r0 ([]:List Int)) (oG ) (r0,([]:List Int)) fun r1=>
 .say [.rows ((r1.2++[IntKind.wrap .u8 r1.1]).map (lfK .u8))] (ok1 (by simp[lfI,lfK]:(r1.2++[IntKind.wrap .u8 r1.1]).map (lfK .u8)=(r1.2.map (lfK .u8))++[((lfK .u8) (IntKind.wrap .u8 r1.1))]))<|
 .grd ((r1.2.length+[IntKind.wrap .u8 r1.1].length)*1≤140737488355328) fun h1=>
 .say [] (ok1 (by simpa using h1:((r1.2.map (lfK .u8)).length+[((lfK .u8) (IntKind.wrap .u8 r1.1))].length)*1≤140737488355328))<|
 .ret ⟨[.kill 1,.mvn 2],[0],[(3,0)],1⟩ (r1.2++[IntKind.wrap .u8 r1.1])
def Q44(p_n:Int):Option (List Int):=Mo.den (ac8 p_n)
theorem alc(p_n:Int):FH (Q44 p_n) 131 [.raw (.slice none 0 0),.i_ p_n] [] (fun _=>.own 0) (fun r=>[.row 5 1 (r.map (lfK .u8))]):=dQ Tryz.func131
def U7(p_n:Int):Mo (ByteArray):=
 .ask (Q44 p_n) fun r0 h0=>
 .say [.gy [] (.own 0) [.row 5 1 (r0.map (lfK .u8))],.nums r0] (okc (alc _ _ h0) (ok1 (by simp[lfI,lfK]:(r0.map (lfK .u8))=r0.map fun n=>[Lf.int .u8 n])))<|
 .ret (bn 1) (strOfNums r0)
def SB(p_n:Int):Option (ByteArray):=Mo.den (U7 p_n)
theorem Xt(p_n:Int):FV (SB p_n) 75 [.i_ p_n] (fun r=>.lf (.str r)):=dL Tryz.func75
def amV(p_n:Int)(p_b0:ak):Mo (ak):=
 .ask (SB p_n) fun r0 h0=>
 .say [.kC (.q 0 (.q 1 (.q 2 (.q 3 (.q 5 (.alt 4 (.l 6 (.l 7 (.q 8 (.q 9 (.l 10 .fin))))) (.l 6 (.l 4 (.l 7 (.q 8 (.q 9 (.l 10 .fin)))))))))))) (some 10) [1,2] [.both [.at_ 2 4,.resv 1,.res (.lf (.str r0)),.rows ((p_b0.bg++(numsOf (r0:ByteArray))).map (lfK .u8)),.slot 2] [.at_ 2 6,.resv 1,.res (.lf (.str r0)),.rows ((p_b0.bg++(numsOf (r0:ByteArray))).map (lfK .u8)),.slot 2]] [] 3 [] [.box 75 (.agg [.own 2,.b_ p_b0.cu]),.dead,.row 5 1 ((p_b0.bg++(numsOf (r0:ByteArray))).map (lfK .u8))]] (okc (Xt _ _ h0) (ok1 (by first|(rw[List.map_append,gG];done)|(rw[gG,List.nil_append];done)|simp[lfI,lfK,gG]:(p_b0.bg++(numsOf (r0:ByteArray))).map (lfK .u8)=(p_b0.bg.map (lfK .u8))++tZ (r0:ByteArray))))<|
 .grd (p_b0.bg.length+(r0:ByteArray).size≤140737488355328) fun h1=>
 .say [] (okc (by simpa using h1:(p_b0.bg.map (lfK .u8)).length+(r0:ByteArray).size≤140737488355328) (okc (rf_ ⟨[],[.box 75 (.agg [.own 2,.b_ p_b0.cu]),.dead,.row 5 1 ((p_b0.bg++(numsOf (r0:ByteArray))).map (lfK .u8))]⟩) (okc (Xt _ _ h0) (okc (by first|(rw[List.map_append,gG];done)|(rw[gG,List.nil_append];done)|simp[lfI,lfK,gG]:(p_b0.bg++(numsOf (r0:ByteArray))).map (lfK .u8)=(p_b0.bg.map (lfK .u8))++tZ (r0:ByteArray)) (okc (by simpa using h1:(p_b0.bg.map (lfK .u8)).length+(r0:ByteArray).size≤140737488355328) (ok1 (rf_ ⟨[],[.box 75 (.agg [.own 2,.b_ p_b0.cu]),.dead,.row 5 1 ((p_b0.bg++(numsOf (r0:ByteArray))).map (lfK .u8))]⟩)))))))<|
 .ret ⟨[.mvn 2],[],[(3,2)],3⟩ (ak.mk (p_b0.bg++(numsOf (r0:ByteArray))) p_b0.cu)
def Q7(p_n:Int)(p_b0:ak):Option (ak):=Mo.den (amV p_n p_b0)
theorem je(p_n:Int)(p_b0:ak):FH (Q7 p_n p_b0) 34 [.ptr 0 0,.i_ p_n] [.box 75 (.agg [.own 1,.b_ p_b0.cu]),.row 5 1 (p_b0.bg.map (lfK .u8))] (fun _=>.tup []) (fun r=>[.box 75 (.agg [.own 2,.b_ r.cu]),.dead,.row 5 1 (r.bg.map (lfK .u8))]):=dQ Tryz.func34
def ajp(p_s:ByteArray)(p_b0:ak):Mo (ak):=
 .ask (Q7 (p_s.size:Int) p_b0) fun r0 h0=>
 .say [.gy [0,1] (.tup []) [.box 75 (.agg [.own 2,.b_ r0.cu]),.dead,.row 5 1 (r0.bg.map (lfK .u8))],.rows ((r0.bg++(numsOf (p_s:ByteArray))).map (lfK .u8))] (okc (je _ _ _ h0) (ok1 (by first|(rw[List.map_append,gG];done)|(rw[gG,List.nil_append];done)|simp[lfI,lfK,gG]:(r0.bg++(numsOf (p_s:ByteArray))).map (lfK .u8)=(r0.bg.map (lfK .u8))++tZ (p_s:ByteArray))))<|
 .grd (r0.bg.length+(p_s:ByteArray).size≤140737488355328) fun h1=>
 .say [] (ok1 (by simpa using h1:(r0.bg.map (lfK .u8)).length+(p_s:ByteArray).size≤140737488355328))<|
 .ret ⟨[.mvn 3],[],[(4,2)],3⟩ (ak.mk (r0.bg++(numsOf (p_s:ByteArray))) r0.cu)
def Q80(p_s:ByteArray)(p_b0:ak):Option (ak):=Mo.den (ajp p_s p_b0)
theorem uY(p_s:ByteArray)(p_b0:ak):FH (Q80 p_s p_b0) 35 [.ptr 0 0,.lf (.str p_s)] [.box 75 (.agg [.own 1,.b_ p_b0.cu]),.row 5 1 (p_b0.bg.map (lfK .u8))] (fun _=>.tup []) (fun r=>[.box 75 (.agg [.own 2,.b_ r.cu]),.dead,.row 5 1 (r.bg.map (lfK .u8))]):=dQ Tryz.func35
def ac9(p_b:Bool)(p_b0:ak):Mo (ak):=
 .iB (p_b) (.say [.rows ((p_b0.bg++[(1:Int)]).map (lfK .u8))] (ok1 (by simp[lfI,lfK]:(p_b0.bg++[(1:Int)]).map (lfK .u8)=(p_b0.bg.map (lfK .u8))++[((lfK .u8) (1:Int))]))<|
 .grd ((p_b0.bg.length+[(1:Int)].length)*1≤140737488355328) fun h0=>
 .say [] (ok1 (by simpa using h0:((p_b0.bg.map (lfK .u8)).length+[((lfK .u8) (1:Int))].length)*1≤140737488355328))<|
 .ret ⟨[.kill 2,.mvn 3],[],[(4,2)],3⟩ (ak.mk (p_b0.bg++[(1:Int)]) p_b0.cu))<|
 .say [.rows ((p_b0.bg++[(0:Int)]).map (lfK .u8))] (ok1 (by simp[lfI,lfK]:(p_b0.bg++[(0:Int)]).map (lfK .u8)=(p_b0.bg.map (lfK .u8))++[((lfK .u8) (0:Int))]))<|
 .grd ((p_b0.bg.length+[(0:Int)].length)*1≤140737488355328) fun h1=>
 .say [] (ok1 (by simpa using h1:((p_b0.bg.map (lfK .u8)).length+[((lfK .u8) (0:Int))].length)*1≤140737488355328))<|
 .ret ⟨[.kill 2,.mvn 3],[],[(4,2)],3⟩ (ak.mk (p_b0.bg++[(0:Int)]) p_b0.cu)
def Q60(p_b:Bool)(p_b0:ak):Option (ak):=Mo.den (ac9 p_b p_b0)
theorem qg(p_b:Bool)(p_b0:ak):FH (Q60 p_b p_b0) 82 [.ptr 0 0,.b_ p_b] [.box 75 (.agg [.own 1,.b_ p_b0.cu]),.row 5 1 (p_b0.bg.map (lfK .u8))] (fun _=>.tup []) (fun r=>[.box 75 (.agg [.own 2,.b_ r.cu]),.dead,.row 5 1 (r.bg.map (lfK .u8))]):=dQ Tryz.func82
def uZ :(Int×(List Int))→Mo ((Int×(List Int))⊕(Int×(List Int))):=fun(v0,l0)=>
 .iB (decide ((128:Int)≤v0)) (.say [.rows ((l0++[dU .or .u8 (IntKind.wrap .u8 v0) 128]).map (lfK .u8))] (ok1 (by simp[lfI,lfK]:(l0++[dU .or .u8 (IntKind.wrap .u8 v0) 128]).map (lfK .u8)=(l0.map (lfK .u8))++[((lfK .u8) (dU .or .u8 (IntKind.wrap .u8 v0) 128))]))<|
 .grd ((l0.length+[dU .or .u8 (IntKind.wrap .u8 v0) 128].length)*1≤140737488355328) fun h0=>
 .say [] (okc (by simpa using h0:((l0.map (lfK .u8)).length+[((lfK .u8) (dU .or .u8 (IntKind.wrap .u8 v0) 128))].length)*1≤140737488355328) (ok1 (by decide:(0:Int)≤7)))<|
 .ret ⟨[],[0,5],[(3,1)],2⟩ (.inl (tX .u64 v0 7,l0++[dU .or .u8 (IntKind.wrap .u8 v0) 128])))<|
 .rt [0,5] 2 (.inr (v0,l0))
def U8(v0:Int)(l0:List Int):Option ((Int×(List Int))):=dM (fun v_=>(uZ  v_).den) FU (v0,l0)
def ada(p_n:Int)(p_s0:List Int):Mo (List Int):=
 .cl (Nv p_n) fun r0 _=>
 .l1m [.mvn 0] Tryz.f131 1 [1,1,0,0] 0 (.exit 0) (fun(v0,l0)=>⟨[(0,.own 1),(5,.lf (.int .u64 v0))],[.dead,.row 5 1 (l0.map (lfK .u8))]⟩) (fun r_=>⟨[(0,.own 1),(5,.lf (.int .u64 r_.1))],[.dead,.row 5 1 (r_.2.map (lfK .u8))]⟩) (U8 r0 p_s0) (uZ ) (r0,p_s0) fun r1=>
 .say [.rows ((r1.2++[IntKind.wrap .u8 r1.1]).map (lfK .u8))] (ok1 (by simp[lfI,lfK]:(r1.2++[IntKind.wrap .u8 r1.1]).map (lfK .u8)=(r1.2.map (lfK .u8))++[((lfK .u8) (IntKind.wrap .u8 r1.1))]))<|
 .grd ((r1.2.length+[IntKind.wrap .u8 r1.1].length)*1≤140737488355328) fun h0=>
 .say [] (ok1 (by simpa using h0:((r1.2.map (lfK .u8)).length+[((lfK .u8) (IntKind.wrap .u8 r1.1))].length)*1≤140737488355328))<|
 .ret ⟨[.kill 2,.mvn 3],[0],[(4,1)],2⟩ (r1.2++[IntKind.wrap .u8 r1.1])
def Q27(p_n:Int)(p_s0:List Int):Option (List Int):=Mo.den (ada p_n p_s0)
theorem yF(p_n:Int)(p_s0:List Int):FH (Q27 p_n p_s0) 131 [.own 0,.i_ p_n] [.row 5 1 (p_s0.map (lfK .u8))] (fun _=>.own 1) (fun r=>[.dead,.row 5 1 (r.map (lfK .u8))]):=dQ Tryz.func131
def adb(p_s:ByteArray)(p_s0:List Int):Mo (List Int):=
 .ask (Q27 (p_s.size:Int) p_s0) fun r0 h0=>
 .say [.gy [0] (.own 1) [.dead,.row 5 1 (r0.map (lfK .u8))],.rows ((r0++(numsOf (p_s:ByteArray))).map (lfK .u8))] (okc (yF _ _ _ h0) (ok1 (by first|(rw[List.map_append,gG];done)|(rw[gG,List.nil_append];done)|simp[lfI,lfK,gG]:(r0++(numsOf (p_s:ByteArray))).map (lfK .u8)=(r0.map (lfK .u8))++tZ (p_s:ByteArray))))<|
 .grd (r0.length+(p_s:ByteArray).size≤140737488355328) fun h1=>
 .say [] (ok1 (by simpa using h1:(r0.map (lfK .u8)).length+(p_s:ByteArray).size≤140737488355328))<|
 .ret ⟨[.mvn 2],[0],[(3,1)],2⟩ (r0++(numsOf (p_s:ByteArray)))
def Q91(p_s:ByteArray)(p_s0:List Int):Option (List Int):=Mo.den (adb p_s p_s0)
theorem NK(p_s:ByteArray)(p_s0:List Int):FH (Q91 p_s p_s0) 278 [.own 0,.lf (.str p_s)] [.row 5 1 (p_s0.map (lfK .u8))] (fun _=>.own 1) (fun r=>[.dead,.row 5 1 (r.map (lfK .u8))]):=dQ Tryz.func278
abbrev NM(m:ah→Option (List Int)):Prop:=∀p_v,FH (m p_v) 206 [.raw (.slice none 0 0),.dat (ah.lf1 p_v)] [] (fun _=>.own 0) (fun r=>[.row 5 1 (r.map (lfK .u8))])
abbrev Xu(m:ah→(List Int)→Option (List Int)):Prop:=∀p_v p_s0,FH (m p_v p_s0) 206 [.own 0,.dat (ah.lf1 p_v)] [.row 5 1 (p_s0.map (lfK .u8))] (fun _=>.own 1) (fun r=>[.dead,.row 5 1 (r.map (lfK .u8))])
structure qh where
 m1:(p_v:ah)→Option (List Int)
 ok1:NM m1
 m2:(p_v:ah)→(p_s0:List Int)→Option (List Int)
 ok2:Xu m2
def Gs(R_:qh)(p_v:ah):Mo (Bool):=
 .iB (p_v.ay==3) (.rt [0,3,16,17] 3 (p_v.ay==3))<|
 .rt [0,3,16,17] 3 (p_v.ay==10)
def Gt(R_:qh)(p_v:ah):Mo (Bool):=
 .iB (p_v.ay==4) (.rt [0,3,16,32] 3 (p_v.ay==4))<|
 .rt [0,3,16,32] 3 (p_v.ay==7)
def pR(R_:qh)(p_v:ah):(Int×(List Int))→Mo ((Int×(List Int))⊕((List Int))):=fun(v0,l0)=>
 .iB (decide ((v0:Int)<(p_v.aU.length:Int))) (.gx ah.aW p_v.aU v0 fun x0 _=>
 .say [.at_ 38 2,.tod 60] ok0<|
 .cH [3] (R_.ok2 x0 l0) fun r0 _=>
 .ret ⟨[],[0,53,54,55],[(5,3)],4⟩ (.inl (IntKind.wrap .i64 (v0+1),r0)))<|
 .rt [0] 4 (.inr (l0))
def Xv(R_:qh)(p_v:ah)(v0:Int)(l0:List Int):Option (((List Int))):=dM (fun v_=>(pR R_ p_v v_).den) FU (v0,l0)
def pU(R_:qh)(p_v:ah):(Int×(List Int))→Mo ((Int×(List Int))⊕((List Int))):=fun(v0,l0)=>
 .iB (decide ((v0:Int)<(p_v.aY.length:Int))) (.gx aJ.aW p_v.aY v0 fun x0 _=>
 .ask (Q91 x0.fName l0) fun r0 h0=>
 .say [] (ok1 (NK _ _ _ h0))<|
 .ask (R_.m2 x0.fValue r0) fun r1 h1=>
 .say [.kC (.q 0 (.q 1 (.q 2 (.q 4 (.q 5 (.l 3 (.l 6 (.q 7 .fin)))))))) (some 6) [3] [.gy [3] (.own 1) [.dead,.row 5 1 (r0.map (lfK .u8))],.at_ 52 6,.tod 82,.gy [5] (.own 1) [.dead,.row 5 1 (r1.map (lfK .u8))]] [0,71,72,73] 7 [(0,.own 6),(71,.lf (.rows 6 (p_v.aY.map aJ.lf))),(72,.i_ (p_v.aY.length:Int)),(73,.i_ v0)] [.dead,.dead,.dead,.dead,.box 115 (.agg ((aJ.lf1 x0).map AV.lf)),.dead,.row 5 1 (r1.map (lfK .u8))]] (okc (R_.ok2 _ _ _ h1) (ok1 (rf_ ⟨[(0,.own 6),(71,.lf (.rows 6 (p_v.aY.map aJ.lf))),(72,.i_ (p_v.aY.length:Int)),(73,.i_ v0)],[.dead,.dead,.dead,.dead,.box 115 (.agg ((aJ.lf1 x0).map AV.lf)),.dead,.row 5 1 (r1.map (lfK .u8))]⟩)))<|
 .ret ⟨[],[0,71,72,73],[(6,3)],4⟩ (.inl (IntKind.wrap .i64 (v0+1),r1)))<|
 .rt [0] 4 (.inr (l0))
def Xw(R_:qh)(p_v:ah)(v0:Int)(l0:List Int):Option (((List Int))):=dM (fun v_=>(pU R_ p_v v_).den) FU (v0,l0)
def CJ(R_:qh)(p_v:ah):Mo (((List Int))):=
 .jk Tryz.f206 0 [1,1,0,1,0,0,1] 1 (fun r_=>⟨[(0,.own 2),(3,.ptr 0 0),(16,.i_ p_v.ay),(17,.b_ r_)],[bK p_v,.dead,.row 5 1 ([IntKind.wrap .u8 p_v.ay].map (lfK .u8))]⟩) ⟨[(0,.own 2),(3,.ptr 0 0),(16,.i_ p_v.ay),(17,.lf (.bool (p_v.ay==3)))],[bK p_v,.dead,.row 5 1 ([IntKind.wrap .u8 p_v.ay].map (lfK .u8))]⟩ (Gs R_ p_v) fun r0=>
 .iB (r0) (.cH [2] (yF p_v.dG [IntKind.wrap .u8 p_v.ay]) fun r1 _=>
 .ret ⟨[.kill 0],[0],[(3,2)],3⟩ (r1))<|
 .iB (p_v.ay==9) (.say [.rows (([IntKind.wrap .u8 p_v.ay]++[IntKind.wrap .u8 p_v.dG]).map (lfK .u8))] (ok1 (by simp[lfI,lfK]:([IntKind.wrap .u8 p_v.ay]++[IntKind.wrap .u8 p_v.dG]).map (lfK .u8)=([IntKind.wrap .u8 p_v.ay].map (lfK .u8))++[((lfK .u8) (IntKind.wrap .u8 p_v.dG))]))<|
 .grd (([IntKind.wrap .u8 p_v.ay].length+[IntKind.wrap .u8 p_v.dG].length)*1≤140737488355328) fun h0=>
 .say [] (ok1 (by first|(simp;done)|simpa using h0:(([IntKind.wrap .u8 p_v.ay].map (lfK .u8)).length+[((lfK .u8) (IntKind.wrap .u8 p_v.dG))].length)*1≤140737488355328))<|
 .ret ⟨[.kill 0],[0],[(4,2)],3⟩ ([IntKind.wrap .u8 p_v.ay]++[IntKind.wrap .u8 p_v.dG]))<|
 .jk Tryz.f206 0 [1,1,0,1,0,1,1,1,1,0,1] 1 (fun r_=>⟨[(0,.own 2),(3,.ptr 0 0),(16,.i_ p_v.ay),(32,.b_ r_)],[bK p_v,.dead,.row 5 1 ([IntKind.wrap .u8 p_v.ay].map (lfK .u8))]⟩) ⟨[(0,.own 2),(3,.ptr 0 0),(16,.i_ p_v.ay),(32,.lf (.bool (p_v.ay==4)))],[bK p_v,.dead,.row 5 1 ([IntKind.wrap .u8 p_v.ay].map (lfK .u8))]⟩ (Gt R_ p_v) fun r2=>
 .iB (r2) (.cH [2] (NK p_v.fText [IntKind.wrap .u8 p_v.ay]) fun r3 _=>
 .ret ⟨[.kill 0],[0],[(3,2)],3⟩ (r3))<|
 .iB (p_v.ay==8) (.say [.rows (([IntKind.wrap .u8 p_v.ay]++(numsOf (p_v.fText:ByteArray))).map (lfK .u8))] (ok1 (by first|(rw[List.map_append,gG];done)|(rw[gG,List.nil_append];done)|simp[lfI,lfK,gG]:([IntKind.wrap .u8 p_v.ay]++(numsOf (p_v.fText:ByteArray))).map (lfK .u8)=([IntKind.wrap .u8 p_v.ay].map (lfK .u8))++tZ (p_v.fText:ByteArray)))<|
 .grd ([IntKind.wrap .u8 p_v.ay].length+(p_v.fText:ByteArray).size≤140737488355328) fun h1=>
 .say [] (ok1 (by simpa using h1:([IntKind.wrap .u8 p_v.ay].map (lfK .u8)).length+(p_v.fText:ByteArray).size≤140737488355328))<|
 .ret ⟨[.kill 0],[0],[(3,2)],3⟩ ([IntKind.wrap .u8 p_v.ay]++(numsOf (p_v.fText:ByteArray))))<|
 .iB (p_v.ay==6) (.nu p_v.aU ah.lf<|
 .ask (Q27 (p_v.aU.length:Int) [IntKind.wrap .u8 p_v.ay]) fun r4 h2=>
 .say [.gy [2] (.own 1) [.dead,.row 5 1 (r4.map (lfK .u8))],.num p_v.aU.length] (okc (yF _ _ _ h2) (ok1 (ln_ p_v.aU ah.lf)))<|
 .l1m [.kill 0] Tryz.f206 0 [1,1,0,1,0,1,1,1,1,1,1,1,1,1,0,1,1,0] 0 (.exit 1) (fun(v0,l0)=>⟨[(0,.own 3),(53,.lf (.rows 5 (p_v.aU.map ah.lf))),(54,.i_ (p_v.aU.length:Int)),(55,.i_ v0)],[.dead,.dead,.dead,.row 5 1 (l0.map (lfK .u8))]⟩) (fun r_=>⟨[(0,.own 3)],[.dead,.dead,.dead,.row 5 1 (r_.map (lfK .u8))]⟩) (Xv R_ p_v 0 r4) (pR R_ p_v) (0,r4) fun r5=>
 .ret ⟨[],[0],[(3,2)],3⟩ (r5))<|
 .iB (p_v.ay==5) (.nu p_v.aY aJ.lf<|
 .ask (Q27 (p_v.aY.length:Int) [IntKind.wrap .u8 p_v.ay]) fun r6 h3=>
 .say [.gy [2] (.own 1) [.dead,.row 5 1 (r6.map (lfK .u8))],.num p_v.aY.length] (okc (yF _ _ _ h3) (ok1 (ln_ p_v.aY aJ.lf)))<|
 .l1m [.kill 0] Tryz.f206 0 [1,1,0,1,0,1,1,1,1,1,1,1,1,1,1,1,0,1,1,0] 0 (.exit 3) (fun(v1,l1)=>⟨[(0,.own 3),(71,.lf (.rows 6 (p_v.aY.map aJ.lf))),(72,.i_ (p_v.aY.length:Int)),(73,.i_ v1)],[.dead,.dead,.dead,.row 5 1 (l1.map (lfK .u8))]⟩) (fun r_=>⟨[(0,.own 3)],[.dead,.dead,.dead,.row 5 1 (r_.map (lfK .u8))]⟩) (Xw R_ p_v 0 r6) (pU R_ p_v) (0,r6) fun r7=>
 .ret ⟨[],[0],[(3,2)],3⟩ (r7))<|
 .ret ⟨[.kill 0],[0],[],3⟩ ([IntKind.wrap .u8 p_v.ay])
def KC(R_:qh)(p_v:ah):Mo (List Int):=
 .say [.rows ([IntKind.wrap .u8 p_v.ay].map (lfK .u8))] (ok1 (by simp[lfI,lfK]:[IntKind.wrap .u8 p_v.ay].map (lfK .u8)=[]++[((lfK .u8) (IntKind.wrap .u8 p_v.ay))]))<|
 .grd ((([]:List Int).length+[IntKind.wrap .u8 p_v.ay].length)*1≤140737488355328) fun h0=>
 .say [] (ok1 (by first|(simp;done)|simpa using h0:(([]:List (List Lf)).length+[((lfK .u8) (IntKind.wrap .u8 p_v.ay))].length)*1≤140737488355328))<|
 .jy [.kill 1] Tryz.f206 0 [1,1,0,1] 6 (.normal) (fun r_=>⟨[(0,.own 2)],[.dead,.dead,.row 5 1 (r_.map (lfK .u8))]⟩) ⟨[(0,.own 2),(3,.ptr 0 0),(16,.i_ p_v.ay)],[bK p_v,.dead,.row 5 1 ([IntKind.wrap .u8 p_v.ay].map (lfK .u8))]⟩ (CJ R_ p_v) fun r0=>
 .ret ⟨[.mvn 2],[0],[(3,0)],1⟩ (r0)
theorem ahn(R_:qh):NM fun p_v=>Mo.den (KC R_ p_v):=fun _=>dQ Tryz.func206
def Gu(R_:qh)(p_s0:List Int)(p_v:ah):Mo (Bool):=
 .iB (p_v.ay==3) (.rt [0,3,16,17] 4 (p_v.ay==3))<|
 .rt [0,3,16,17] 4 (p_v.ay==10)
def Gv(R_:qh)(p_s0:List Int)(p_v:ah):Mo (Bool):=
 .iB (p_v.ay==4) (.rt [0,3,16,32] 4 (p_v.ay==4))<|
 .rt [0,3,16,32] 4 (p_v.ay==7)
def pV(R_:qh)(p_v:ah):(Int×(List Int))→Mo ((Int×(List Int))⊕((List Int))):=fun(v0,l0)=>
 .iB (decide ((v0:Int)<(p_v.aU.length:Int))) (.gx ah.aW p_v.aU v0 fun x0 _=>
 .say [.at_ 38 2,.tod 60] ok0<|
 .cH [4] (R_.ok2 x0 l0) fun r0 _=>
 .ret ⟨[],[0,53,54,55],[(6,4)],5⟩ (.inl (IntKind.wrap .i64 (v0+1),r0)))<|
 .rt [0] 5 (.inr (l0))
def Xx(R_:qh)(p_v:ah)(v0:Int)(l0:List Int):Option (((List Int))):=dM (fun v_=>(pV R_ p_v v_).den) FU (v0,l0)
def pW(R_:qh)(p_v:ah):(Int×(List Int))→Mo ((Int×(List Int))⊕((List Int))):=fun(v0,l0)=>
 .iB (decide ((v0:Int)<(p_v.aY.length:Int))) (.gx aJ.aW p_v.aY v0 fun x0 _=>
 .ask (Q91 x0.fName l0) fun r0 h0=>
 .say [] (ok1 (NK _ _ _ h0))<|
 .ask (R_.m2 x0.fValue r0) fun r1 h1=>
 .say [.kC (.q 0 (.q 1 (.q 2 (.q 4 (.q 5 (.l 3 (.l 6 (.q 7 .fin)))))))) (some 6) [4] [.gy [4] (.own 1) [.dead,.row 5 1 (r0.map (lfK .u8))],.at_ 52 6,.tod 82,.gy [6] (.own 1) [.dead,.row 5 1 (r1.map (lfK .u8))]] [0,71,72,73] 8 [(0,.own 7),(71,.lf (.rows 6 (p_v.aY.map aJ.lf))),(72,.i_ (p_v.aY.length:Int)),(73,.i_ v0)] [.dead,.dead,.dead,.dead,.dead,.box 115 (.agg ((aJ.lf1 x0).map AV.lf)),.dead,.row 5 1 (r1.map (lfK .u8))]] (okc (R_.ok2 _ _ _ h1) (ok1 (rf_ ⟨[(0,.own 7),(71,.lf (.rows 6 (p_v.aY.map aJ.lf))),(72,.i_ (p_v.aY.length:Int)),(73,.i_ v0)],[.dead,.dead,.dead,.dead,.dead,.box 115 (.agg ((aJ.lf1 x0).map AV.lf)),.dead,.row 5 1 (r1.map (lfK .u8))]⟩)))<|
 .ret ⟨[],[0,71,72,73],[(7,4)],5⟩ (.inl (IntKind.wrap .i64 (v0+1),r1)))<|
 .rt [0] 5 (.inr (l0))
def Xy(R_:qh)(p_v:ah)(v0:Int)(l0:List Int):Option (((List Int))):=dM (fun v_=>(pW R_ p_v v_).den) FU (v0,l0)
def CO(R_:qh)(p_s0:List Int)(p_v:ah):Mo (((List Int))):=
 .jk Tryz.f206 1 [1,1,0,1,0,0,1] 1 (fun r_=>⟨[(0,.own 3),(3,.ptr 1 0),(16,.i_ p_v.ay),(17,.b_ r_)],[.dead,bK p_v,.dead,.row 5 1 ((p_s0++[IntKind.wrap .u8 p_v.ay]).map (lfK .u8))]⟩) ⟨[(0,.own 3),(3,.ptr 1 0),(16,.i_ p_v.ay),(17,.lf (.bool (p_v.ay==3)))],[.dead,bK p_v,.dead,.row 5 1 ((p_s0++[IntKind.wrap .u8 p_v.ay]).map (lfK .u8))]⟩ (Gu R_ p_s0 p_v) fun r0=>
 .iB (r0) (.cH [3] (yF p_v.dG (p_s0++[IntKind.wrap .u8 p_v.ay])) fun r1 _=>
 .ret ⟨[.kill 1],[0],[(4,3)],4⟩ (r1))<|
 .iB (p_v.ay==9) (.say [.rows (((p_s0++[IntKind.wrap .u8 p_v.ay])++[IntKind.wrap .u8 p_v.dG]).map (lfK .u8))] (ok1 (by simp[lfI,lfK]:((p_s0++[IntKind.wrap .u8 p_v.ay])++[IntKind.wrap .u8 p_v.dG]).map (lfK .u8)=((p_s0++[IntKind.wrap .u8 p_v.ay]).map (lfK .u8))++[((lfK .u8) (IntKind.wrap .u8 p_v.dG))]))<|
 .grd (((p_s0++[IntKind.wrap .u8 p_v.ay]).length+[IntKind.wrap .u8 p_v.dG].length)*1≤140737488355328) fun h0=>
 .say [] (ok1 (by simpa using h0:(((p_s0++[IntKind.wrap .u8 p_v.ay]).map (lfK .u8)).length+[((lfK .u8) (IntKind.wrap .u8 p_v.dG))].length)*1≤140737488355328))<|
 .ret ⟨[.kill 1],[0],[(5,3)],4⟩ ((p_s0++[IntKind.wrap .u8 p_v.ay])++[IntKind.wrap .u8 p_v.dG]))<|
 .jk Tryz.f206 1 [1,1,0,1,0,1,1,1,1,0,1] 1 (fun r_=>⟨[(0,.own 3),(3,.ptr 1 0),(16,.i_ p_v.ay),(32,.b_ r_)],[.dead,bK p_v,.dead,.row 5 1 ((p_s0++[IntKind.wrap .u8 p_v.ay]).map (lfK .u8))]⟩) ⟨[(0,.own 3),(3,.ptr 1 0),(16,.i_ p_v.ay),(32,.lf (.bool (p_v.ay==4)))],[.dead,bK p_v,.dead,.row 5 1 ((p_s0++[IntKind.wrap .u8 p_v.ay]).map (lfK .u8))]⟩ (Gv R_ p_s0 p_v) fun r2=>
 .iB (r2) (.cH [3] (NK p_v.fText (p_s0++[IntKind.wrap .u8 p_v.ay])) fun r3 _=>
 .ret ⟨[.kill 1],[0],[(4,3)],4⟩ (r3))<|
 .iB (p_v.ay==8) (.say [.rows (((p_s0++[IntKind.wrap .u8 p_v.ay])++(numsOf (p_v.fText:ByteArray))).map (lfK .u8))] (ok1 (by first|(rw[List.map_append,gG];done)|(rw[gG,List.nil_append];done)|simp[lfI,lfK,gG]:((p_s0++[IntKind.wrap .u8 p_v.ay])++(numsOf (p_v.fText:ByteArray))).map (lfK .u8)=((p_s0++[IntKind.wrap .u8 p_v.ay]).map (lfK .u8))++tZ (p_v.fText:ByteArray)))<|
 .grd ((p_s0++[IntKind.wrap .u8 p_v.ay]).length+(p_v.fText:ByteArray).size≤140737488355328) fun h1=>
 .say [] (ok1 (by simpa using h1:((p_s0++[IntKind.wrap .u8 p_v.ay]).map (lfK .u8)).length+(p_v.fText:ByteArray).size≤140737488355328))<|
 .ret ⟨[.kill 1],[0],[(4,3)],4⟩ ((p_s0++[IntKind.wrap .u8 p_v.ay])++(numsOf (p_v.fText:ByteArray))))<|
 .iB (p_v.ay==6) (.nu p_v.aU ah.lf<|
 .ask (Q27 (p_v.aU.length:Int) (p_s0++[IntKind.wrap .u8 p_v.ay])) fun r4 h2=>
 .say [.gy [3] (.own 1) [.dead,.row 5 1 (r4.map (lfK .u8))],.num p_v.aU.length] (okc (yF _ _ _ h2) (ok1 (ln_ p_v.aU ah.lf)))<|
 .l1m [.kill 1] Tryz.f206 1 [1,1,0,1,0,1,1,1,1,1,1,1,1,1,0,1,1,0] 0 (.exit 1) (fun(v0,l0)=>⟨[(0,.own 4),(53,.lf (.rows 5 (p_v.aU.map ah.lf))),(54,.i_ (p_v.aU.length:Int)),(55,.i_ v0)],[.dead,.dead,.dead,.dead,.row 5 1 (l0.map (lfK .u8))]⟩) (fun r_=>⟨[(0,.own 4)],[.dead,.dead,.dead,.dead,.row 5 1 (r_.map (lfK .u8))]⟩) (Xx R_ p_v 0 r4) (pV R_ p_v) (0,r4) fun r5=>
 .ret ⟨[],[0],[(4,3)],4⟩ (r5))<|
 .iB (p_v.ay==5) (.nu p_v.aY aJ.lf<|
 .ask (Q27 (p_v.aY.length:Int) (p_s0++[IntKind.wrap .u8 p_v.ay])) fun r6 h3=>
 .say [.gy [3] (.own 1) [.dead,.row 5 1 (r6.map (lfK .u8))],.num p_v.aY.length] (okc (yF _ _ _ h3) (ok1 (ln_ p_v.aY aJ.lf)))<|
 .l1m [.kill 1] Tryz.f206 1 [1,1,0,1,0,1,1,1,1,1,1,1,1,1,1,1,0,1,1,0] 0 (.exit 3) (fun(v1,l1)=>⟨[(0,.own 4),(71,.lf (.rows 6 (p_v.aY.map aJ.lf))),(72,.i_ (p_v.aY.length:Int)),(73,.i_ v1)],[.dead,.dead,.dead,.dead,.row 5 1 (l1.map (lfK .u8))]⟩) (fun r_=>⟨[(0,.own 4)],[.dead,.dead,.dead,.dead,.row 5 1 (r_.map (lfK .u8))]⟩) (Xy R_ p_v 0 r6) (pW R_ p_v) (0,r6) fun r7=>
 .ret ⟨[],[0],[(4,3)],4⟩ (r7))<|
 .ret ⟨[.kill 1],[0],[],4⟩ (p_s0++[IntKind.wrap .u8 p_v.ay])
def KD(R_:qh)(p_v:ah)(p_s0:List Int):Mo (List Int):=
 .say [.rows ((p_s0++[IntKind.wrap .u8 p_v.ay]).map (lfK .u8))] (ok1 (by simp[lfI,lfK]:(p_s0++[IntKind.wrap .u8 p_v.ay]).map (lfK .u8)=(p_s0.map (lfK .u8))++[((lfK .u8) (IntKind.wrap .u8 p_v.ay))]))<|
 .grd ((p_s0.length+[IntKind.wrap .u8 p_v.ay].length)*1≤140737488355328) fun h0=>
 .say [] (ok1 (by simpa using h0:((p_s0.map (lfK .u8)).length+[((lfK .u8) (IntKind.wrap .u8 p_v.ay))].length)*1≤140737488355328))<|
 .jy [.kill 2] Tryz.f206 1 [1,1,0,1] 6 (.normal) (fun r_=>⟨[(0,.own 3)],[.dead,.dead,.dead,.row 5 1 (r_.map (lfK .u8))]⟩) ⟨[(0,.own 3),(3,.ptr 1 0),(16,.i_ p_v.ay)],[.dead,bK p_v,.dead,.row 5 1 ((p_s0++[IntKind.wrap .u8 p_v.ay]).map (lfK .u8))]⟩ (CO R_ p_s0 p_v) fun r0=>
 .ret ⟨[.mvn 3],[0],[(4,1)],2⟩ (r0)
theorem aho(R_:qh):Xu fun p_v p_s0=>Mo.den (KD R_ p_v p_s0):=fun _ _=>dQ Tryz.func206
def jT:Nat→qh
 |0=>{ m1:=fun p_v=>none,ok1:=fun _ _ h=>(by cases h),m2:=fun p_v p_s0=>none,ok2:=fun _ _ _ h=>(by cases h) }
 |n_+1=>{ m1:=fun p_v=>Mo.den (KC (jT n_) p_v),ok1:=ahn (jT n_),m2:=fun p_v p_s0=>Mo.den (KD (jT n_) p_v p_s0),ok2:=aho (jT n_) }
def Q10(p_v:ah):Option (List Int):=(jT FU).m1 p_v
theorem ald:NM Q10:=(jT FU).ok1
def U9(p_v:ah):Mo (ByteArray×Int):=
 .cl (ny p_v) fun r0 _=>
 .iB (!r0) (.ret (bn 2) (⟨#[]⟩,8))<|
 .ask (Q10 p_v) fun r1 h0=>
 .say [.gy [] (.own 0) [.row 5 1 (r1.map (lfK .u8))],.nums r1] (okc (ald _ _ h0) (ok1 (by simp[lfI,lfK]:(r1.map (lfK .u8))=r1.map fun n=>[Lf.int .u8 n])))<|
 .ret (bn 2) (strOfNums r1,0)
def ade(p_v:ah):Option (ByteArray×Int):=Mo.den (U9 p_v)
theorem ahp(p_v:ah):FV (ade p_v) 133 [.dat (ah.lf1 p_v)] (fun r=>.tup [.lf (.str r.1),.i_ r.2]):=dL Tryz.func133
def ajq(p_v:ah)(p_b0:ak):Mo (ak):=
 .cl (zK p_v) fun r0 _=>
 .iB (r0) (.cH [0,1] (qg false p_b0) fun r1 _=>
 .ret ⟨[.kill 2,.mvn 3],[],[(4,2)],3⟩ (r1))<|
 .cl (ny p_v) fun r2 _=>
 .iB (!r2) (.ret ⟨[.kill 2,.mvn 1],[],[(3,2)],3⟩ (ak.mk p_b0.bg true))<|
 .cl (ahp p_v) fun r3 _=>
 .iB (r3.2 != 0) (.ret ⟨[.kill 2,.mvn 1],[],[(3,2)],3⟩ (ak.mk p_b0.bg true))<|
 .ask (Q60 true p_b0) fun r4 h0=>
 .say [.gy [0,1] (.tup []) [.box 75 (.agg [.own 2,.b_ r4.cu]),.dead,.row 5 1 (r4.bg.map (lfK .u8))],.rows ((r4.bg++(numsOf (r3.1:ByteArray))).map (lfK .u8))] (okc (qg _ _ _ h0) (ok1 (by first|(rw[List.map_append,gG];done)|(rw[gG,List.nil_append];done)|simp[lfI,lfK,gG]:(r4.bg++(numsOf (r3.1:ByteArray))).map (lfK .u8)=(r4.bg.map (lfK .u8))++tZ (r3.1:ByteArray))))<|
 .grd (r4.bg.length+(r3.1:ByteArray).size≤140737488355328) fun h1=>
 .say [] (ok1 (by simpa using h1:(r4.bg.map (lfK .u8)).length+(r3.1:ByteArray).size≤140737488355328))<|
 .ret ⟨[.kill 2,.mvn 4],[],[(5,2)],3⟩ (ak.mk (r4.bg++(numsOf (r3.1:ByteArray))) r4.cu)
def Q95(p_v:ah)(p_b0:ak):Option (ak):=Mo.den (ajq p_v p_b0)
theorem vg(p_v:ah)(p_b0:ak):FH (Q95 p_v p_b0) 76 [.ptr 0 0,.dat (ah.lf1 p_v)] [.box 75 (.agg [.own 1,.b_ p_b0.cu]),.row 5 1 (p_b0.bg.map (lfK .u8))] (fun _=>.tup []) (fun r=>[.box 75 (.agg [.own 2,.b_ r.cu]),.dead,.row 5 1 (r.bg.map (lfK .u8))]):=dQ Tryz.func76
def adf(p_s:ByteArray)(p_b0:ak):Mo (ak):=
 .cH [0,1] (uY p_s p_b0) fun r0 _=>
 .ret ⟨[.mvn 2],[],[(3,2)],3⟩ (r0)
def ale(p_s:ByteArray)(p_b0:ak):Option (ak):=Mo.den (adf p_s p_b0)
theorem ahq(p_s:ByteArray)(p_b0:ak):FH (ale p_s p_b0) 209 [.ptr 0 0,.lf (.str p_s)] [.box 75 (.agg [.own 1,.b_ p_b0.cu]),.row 5 1 (p_b0.bg.map (lfK .u8))] (fun _=>.tup []) (fun r=>[.box 75 (.agg [.own 2,.b_ r.cu]),.dead,.row 5 1 (r.bg.map (lfK .u8))]):=dQ Tryz.func209
def Gw(p_l:List ByteArray):(Int×Bool×(List Int))→Mo ((Int×Bool×(List Int))⊕(Bool×(List Int))):=fun(v0,v1,l0)=>
 .iB (decide ((v0:Int)<(p_l.length:Int))) (.gx lS_ p_l v0 fun x0 _=>
 .cH [0,2] (ahq x0 (ak.mk l0 v1)) fun r0 _=>
 .ret ⟨[],[0,2,12,13,14],[(3,2)],3⟩ (.inl (IntKind.wrap .i64 (v0+1),r0.cu,r0.bg)))<|
 .rt [] 3 (.inr (v1,l0))
def ajr(p_l:List ByteArray)(p_b0:ak):Mo (ak):=
 .nu p_l lfS<|
 .ask (Q7 (p_l.length:Int) p_b0) fun r0 h0=>
 .say [.gy [0,1] (.tup []) [.box 75 (.agg [.own 2,.b_ r0.cu]),.dead,.row 5 1 (r0.bg.map (lfK .u8))],.num p_l.length] (okc (je _ _ _ h0) (ok1 (ln_ p_l lfS)))<|
 .l1 Tryz.f208 2 [1,1,0] 0 (.exit 0) (fun(v0,v1,l0)=>⟨[(0,.ptr 0 0),(2,.raw (.func (.func 209) #[] #[])),(12,.lf (.rows 1 (p_l.map lfS))),(13,.i_ (p_l.length:Int)),(14,.i_ v0)],[.box 75 (.agg [.own 2,.b_ v1]),.dead,.row 5 1 (l0.map (lfK .u8))]⟩) (fun r_=>⟨[],[.box 75 (.agg [.own 2,.b_ r_.1]),.dead,.row 5 1 (r_.2.map (lfK .u8))]⟩) (Gw p_l) (0,r0.cu,r0.bg) fun r1=>
 .ret ⟨[.mvn 2],[],[(3,2)],3⟩ (ak.mk r1.2 r1.1)
def Q61(p_l:List ByteArray)(p_b0:ak):Option (ak):=Mo.den (ajr p_l p_b0)
theorem Gx(p_l:List ByteArray)(p_b0:ak):FH (Q61 p_l p_b0) 208 [.ptr 0 0,.lf (.rows 1 (p_l.map lfS)),.raw (.func (.func 209) #[] #[])] [.box 75 (.agg [.own 1,.b_ p_b0.cu]),.row 5 1 (p_b0.bg.map (lfK .u8))] (fun _=>.tup []) (fun r=>[.box 75 (.agg [.own 2,.b_ r.cu]),.dead,.row 5 1 (r.bg.map (lfK .u8))]):=dQ Tryz.func208
def adg(p_o:bf)(p_b0:ak):Mo (ak):=
 .cH [0,1] (Gx p_o.cZ p_b0) fun r0 _=>
 .cH [0,3] (qg p_o.rO r0) fun r1 _=>
 .ret ⟨[.kill 2,.mvn 4],[],[(5,2)],3⟩ (r1)
def ahr(p_o:bf)(p_b0:ak):Option (ak):=Mo.den (adg p_o p_b0)
theorem ahs(p_o:bf)(p_b0:ak):FH (ahr p_o p_b0) 137 [.ptr 0 0,.dat (bf.lf1 p_o)] [.box 75 (.agg [.own 1,.b_ p_b0.cu]),.row 5 1 (p_b0.bg.map (lfK .u8))] (fun _=>.tup []) (fun r=>[.box 75 (.agg [.own 2,.b_ r.cu]),.dead,.row 5 1 (r.bg.map (lfK .u8))]):=dQ Tryz.func137
def Gy(p_l:List bf):(Int×Bool×(List Int))→Mo ((Int×Bool×(List Int))⊕(Bool×(List Int))):=fun(v0,v1,l0)=>
 .iB (decide ((v0:Int)<(p_l.length:Int))) (.gx bf.aW p_l v0 fun x0 _=>
 .say [.at_ 10 3,.tod 20] ok0<|
 .cH [0,2] (ahs x0 (ak.mk l0 v1)) fun r0 _=>
 .ret ⟨[],[0,2,12,13,14],[(4,2)],3⟩ (.inl (IntKind.wrap .i64 (v0+1),r0.cu,r0.bg)))<|
 .rt [] 3 (.inr (v1,l0))
def ajs(p_l:List bf)(p_b0:ak):Mo (ak):=
 .nu p_l bf.lf<|
 .ask (Q7 (p_l.length:Int) p_b0) fun r0 h0=>
 .say [.gy [0,1] (.tup []) [.box 75 (.agg [.own 2,.b_ r0.cu]),.dead,.row 5 1 (r0.bg.map (lfK .u8))],.num p_l.length] (okc (je _ _ _ h0) (ok1 (ln_ p_l bf.lf)))<|
 .l1 Tryz.f136 2 [1,1,0] 0 (.exit 0) (fun(v0,v1,l0)=>⟨[(0,.ptr 0 0),(2,.raw (.func (.func 137) #[] #[])),(12,.lf (.rows 2 (p_l.map bf.lf))),(13,.i_ (p_l.length:Int)),(14,.i_ v0)],[.box 75 (.agg [.own 2,.b_ v1]),.dead,.row 5 1 (l0.map (lfK .u8))]⟩) (fun r_=>⟨[],[.box 75 (.agg [.own 2,.b_ r_.1]),.dead,.row 5 1 (r_.2.map (lfK .u8))]⟩) (Gy p_l) (0,r0.cu,r0.bg) fun r1=>
 .ret ⟨[.mvn 2],[],[(3,2)],3⟩ (ak.mk r1.2 r1.1)
def Q76(p_l:List bf)(p_b0:ak):Option (ak):=Mo.den (ajs p_l p_b0)
theorem alf(p_l:List bf)(p_b0:ak):FH (Q76 p_l p_b0) 136 [.ptr 0 0,.lf (.rows 2 (p_l.map bf.lf)),.raw (.func (.func 137) #[] #[])] [.box 75 (.agg [.own 1,.b_ p_b0.cu]),.row 5 1 (p_b0.bg.map (lfK .u8))] (fun _=>.tup []) (fun r=>[.box 75 (.agg [.own 2,.b_ r.cu]),.dead,.row 5 1 (r.bg.map (lfK .u8))]):=dQ Tryz.func136
def Gz(p_l:List ah):(Int×Bool×(List Int))→Mo ((Int×Bool×(List Int))⊕(Bool×(List Int))):=fun(v0,v1,l0)=>
 .iB (decide ((v0:Int)<(p_l.length:Int))) (.gx ah.aW p_l v0 fun x0 _=>
 .say [.at_ 10 3,.tod 20] ok0<|
 .cH [0,2] (vg x0 (ak.mk l0 v1)) fun r0 _=>
 .ret ⟨[],[0,2,12,13,14],[(4,2)],3⟩ (.inl (IntKind.wrap .i64 (v0+1),r0.cu,r0.bg)))<|
 .rt [] 3 (.inr (v1,l0))
def ajt(p_l:List ah)(p_b0:ak):Mo (ak):=
 .nu p_l ah.lf<|
 .ask (Q7 (p_l.length:Int) p_b0) fun r0 h0=>
 .say [.gy [0,1] (.tup []) [.box 75 (.agg [.own 2,.b_ r0.cu]),.dead,.row 5 1 (r0.bg.map (lfK .u8))],.num p_l.length] (okc (je _ _ _ h0) (ok1 (ln_ p_l ah.lf)))<|
 .l1 Tryz.f207 2 [1,1,0] 0 (.exit 0) (fun(v0,v1,l0)=>⟨[(0,.ptr 0 0),(2,.raw (.func (.func 76) #[] #[])),(12,.lf (.rows 5 (p_l.map ah.lf))),(13,.i_ (p_l.length:Int)),(14,.i_ v0)],[.box 75 (.agg [.own 2,.b_ v1]),.dead,.row 5 1 (l0.map (lfK .u8))]⟩) (fun r_=>⟨[],[.box 75 (.agg [.own 2,.b_ r_.1]),.dead,.row 5 1 (r_.2.map (lfK .u8))]⟩) (Gz p_l) (0,r0.cu,r0.bg) fun r1=>
 .ret ⟨[.mvn 2],[],[(3,2)],3⟩ (ak.mk r1.2 r1.1)
def Q70(p_l:List ah)(p_b0:ak):Option (ak):=Mo.den (ajt p_l p_b0)
theorem adh(p_l:List ah)(p_b0:ak):FH (Q70 p_l p_b0) 207 [.ptr 0 0,.lf (.rows 5 (p_l.map ah.lf)),.raw (.func (.func 76) #[] #[])] [.box 75 (.agg [.own 1,.b_ p_b0.cu]),.row 5 1 (p_b0.bg.map (lfK .u8))] (fun _=>.tup []) (fun r=>[.box 75 (.agg [.own 2,.b_ r.cu]),.dead,.row 5 1 (r.bg.map (lfK .u8))]):=dQ Tryz.func207
def adi(p_p:bM)(p_b0:ak):Mo (ak):=
 .cH [0,1] (je p_p.fX p_b0) fun r0 _=>
 .cH [0,3] (je p_p.fY r0) fun r1 _=>
 .ret ⟨[.kill 2,.mvn 4],[],[(5,2)],3⟩ (r1)
def aht(p_p:bM)(p_b0:ak):Option (ak):=Mo.den (adi p_p p_b0)
theorem ahu(p_p:bM)(p_b0:ak):FH (aht p_p p_b0) 214 [.ptr 0 0,.dat (bM.lf1 p_p)] [.box 75 (.agg [.own 1,.b_ p_b0.cu]),.row 5 1 (p_b0.bg.map (lfK .u8))] (fun _=>.tup []) (fun r=>[.box 75 (.agg [.own 2,.b_ r.cu]),.dead,.row 5 1 (r.bg.map (lfK .u8))]):=dQ Tryz.func214
def GH(p_l:List bM):(Int×Bool×(List Int))→Mo ((Int×Bool×(List Int))⊕(Bool×(List Int))):=fun(v0,v1,l0)=>
 .iB (decide ((v0:Int)<(p_l.length:Int))) (.gx bM.aW p_l v0 fun x0 _=>
 .say [.at_ 10 3,.tod 20] ok0<|
 .cH [0,2] (ahu x0 (ak.mk l0 v1)) fun r0 _=>
 .ret ⟨[],[0,2,12,13,14],[(4,2)],3⟩ (.inl (IntKind.wrap .i64 (v0+1),r0.cu,r0.bg)))<|
 .rt [] 3 (.inr (v1,l0))
def aju(p_l:List bM)(p_b0:ak):Mo (ak):=
 .nu p_l bM.lf<|
 .ask (Q7 (p_l.length:Int) p_b0) fun r0 h0=>
 .say [.gy [0,1] (.tup []) [.box 75 (.agg [.own 2,.b_ r0.cu]),.dead,.row 5 1 (r0.bg.map (lfK .u8))],.num p_l.length] (okc (je _ _ _ h0) (ok1 (ln_ p_l bM.lf)))<|
 .l1 Tryz.f213 2 [1,1,0] 0 (.exit 0) (fun(v0,v1,l0)=>⟨[(0,.ptr 0 0),(2,.raw (.func (.func 214) #[] #[])),(12,.lf (.rows 2 (p_l.map bM.lf))),(13,.i_ (p_l.length:Int)),(14,.i_ v0)],[.box 75 (.agg [.own 2,.b_ v1]),.dead,.row 5 1 (l0.map (lfK .u8))]⟩) (fun r_=>⟨[],[.box 75 (.agg [.own 2,.b_ r_.1]),.dead,.row 5 1 (r_.2.map (lfK .u8))]⟩) (GH p_l) (0,r0.cu,r0.bg) fun r1=>
 .ret ⟨[.mvn 2],[],[(3,2)],3⟩ (ak.mk r1.2 r1.1)
def Q77(p_l:List bM)(p_b0:ak):Option (ak):=Mo.den (aju p_l p_b0)
theorem alg(p_l:List bM)(p_b0:ak):FH (Q77 p_l p_b0) 213 [.ptr 0 0,.lf (.rows 2 (p_l.map bM.lf)),.raw (.func (.func 214) #[] #[])] [.box 75 (.agg [.own 1,.b_ p_b0.cu]),.row 5 1 (p_b0.bg.map (lfK .u8))] (fun _=>.tup []) (fun r=>[.box 75 (.agg [.own 2,.b_ r.cu]),.dead,.row 5 1 (r.bg.map (lfK .u8))]):=dQ Tryz.func213
abbrev NP(m:aS→ak→Option (ak)):Prop:=∀p_e p_b0,FH (m p_e p_b0) 215 [.ptr 0 0,.dat (aS.lf1 p_e)] [.box 75 (.agg [.own 1,.b_ p_b0.cu]),.row 5 1 (p_b0.bg.map (lfK .u8))] (fun _=>.tup []) (fun r=>[.box 75 (.agg [.own 2,.b_ r.cu]),.dead,.row 5 1 (r.bg.map (lfK .u8))])
abbrev Xz(m:(List aS)→ak→Option (ak)):Prop:=∀p_l p_b0,FH (m p_l p_b0) 279 [.ptr 0 0,.lf (.rows 11 (p_l.map aS.lf)),.raw (.func (.func 215) #[] #[])] [.box 75 (.agg [.own 1,.b_ p_b0.cu]),.row 5 1 (p_b0.bg.map (lfK .u8))] (fun _=>.tup []) (fun r=>[.box 75 (.agg [.own 2,.b_ r.cu]),.dead,.row 5 1 (r.bg.map (lfK .u8))])
structure Zm where
 m1:(p_e:aS)→(p_b0:ak)→Option (ak)
 ok1:NP m1
 m2:(p_l:List aS)→(p_b0:ak)→Option (ak)
 ok2:Xz m2
def NQ(R_:Zm)(p_e:aS)(p_b0:ak):Mo (ak):=
 .cH [0,1] (je p_e.fOp p_b0) fun r0 _=>
 .cH [0,3] (Gx p_e.cZ r0) fun r1 _=>
 .cH [0,4] (uY p_e.fName r1) fun r2 _=>
 .cH [0,5] (Gx p_e.fK r2) fun r3 _=>
 .cH [0,6] (vg p_e.fArg r3) fun r4 _=>
 .cH [0,7] (je p_e.fN r4) fun r5 _=>
 .cH [0,8] (R_.ok2 p_e.bV r5) fun r6 _=>
 .ret ⟨[.kill 2,.mvn 9],[],[(10,2)],3⟩ (r6)
theorem adk(R_:Zm):NP fun p_e p_b0=>Mo.den (NQ R_ p_e p_b0):=fun _ _=>dQ Tryz.func215
def CP(R_:Zm)(p_l:List aS):(Int×Bool×(List Int))→Mo ((Int×Bool×(List Int))⊕(Bool×(List Int))):=fun(v0,v1,l0)=>
 .iB (decide ((v0:Int)<(p_l.length:Int))) (.gx aS.aW p_l v0 fun x0 _=>
 .say [.at_ 10 3,.tod 20] ok0<|
 .cH [0,2] (R_.ok1 x0 (ak.mk l0 v1)) fun r0 _=>
 .ret ⟨[],[0,2,12,13,14],[(4,2)],3⟩ (.inl (IntKind.wrap .i64 (v0+1),r0.cu,r0.bg)))<|
 .rt [] 3 (.inr (v1,l0))
def NR(R_:Zm)(p_l:List aS)(p_b0:ak):Mo (ak):=
 .nu p_l aS.lf<|
 .ask (Q7 (p_l.length:Int) p_b0) fun r0 h0=>
 .say [.gy [0,1] (.tup []) [.box 75 (.agg [.own 2,.b_ r0.cu]),.dead,.row 5 1 (r0.bg.map (lfK .u8))],.num p_l.length] (okc (je _ _ _ h0) (ok1 (ln_ p_l aS.lf)))<|
 .l1 Tryz.f279 2 [1,1,0] 0 (.exit 0) (fun(v0,v1,l0)=>⟨[(0,.ptr 0 0),(2,.raw (.func (.func 215) #[] #[])),(12,.lf (.rows 11 (p_l.map aS.lf))),(13,.i_ (p_l.length:Int)),(14,.i_ v0)],[.box 75 (.agg [.own 2,.b_ v1]),.dead,.row 5 1 (l0.map (lfK .u8))]⟩) (fun r_=>⟨[],[.box 75 (.agg [.own 2,.b_ r_.1]),.dead,.row 5 1 (r_.2.map (lfK .u8))]⟩) (CP R_ p_l) (0,r0.cu,r0.bg) fun r1=>
 .ret ⟨[.mvn 2],[],[(3,2)],3⟩ (ak.mk r1.2 r1.1)
theorem adl(R_:Zm):Xz fun p_l p_b0=>Mo.den (NR R_ p_l p_b0):=fun _ _=>dQ Tryz.func279
def oN:Nat→Zm
 |0=>{ m1:=fun p_e p_b0=>none,ok1:=fun _ _ _ h=>(by cases h),m2:=fun p_l p_b0=>none,ok2:=fun _ _ _ h=>(by cases h) }
 |n_+1=>{ m1:=fun p_e p_b0=>Mo.den (NQ (oN n_) p_e p_b0),ok1:=adk (oN n_),m2:=fun p_l p_b0=>Mo.den (NR (oN n_) p_l p_b0),ok2:=adl (oN n_) }
def amW(p_e:aS)(p_b0:ak):Option (ak):=(oN FU).m1 p_e p_b0
theorem ahv:NP amW:=(oN FU).ok1
abbrev NS(m:aO→ak→Option (ak)):Prop:=∀p_p p_b0,FH (m p_p p_b0) 138 [.ptr 0 0,.dat (aO.lf1 p_p)] [.box 75 (.agg [.own 1,.b_ p_b0.cu]),.row 5 1 (p_b0.bg.map (lfK .u8))] (fun _=>.tup []) (fun r=>[.box 75 (.agg [.own 2,.b_ r.cu]),.dead,.row 5 1 (r.bg.map (lfK .u8))])
abbrev XA(m:(List aO)→ak→Option (ak)):Prop:=∀p_l p_b0,FH (m p_l p_b0) 216 [.ptr 0 0,.lf (.rows 25 (p_l.map aO.lf)),.raw (.func (.func 138) #[] #[])] [.box 75 (.agg [.own 1,.b_ p_b0.cu]),.row 5 1 (p_b0.bg.map (lfK .u8))] (fun _=>.tup []) (fun r=>[.box 75 (.agg [.own 2,.b_ r.cu]),.dead,.row 5 1 (r.bg.map (lfK .u8))])
structure Zn where
 m1:(p_p:aO)→(p_b0:ak)→Option (ak)
 ok1:NS m1
 m2:(p_l:List aO)→(p_b0:ak)→Option (ak)
 ok2:XA m2
def NT(R_:Zn)(p_p:aO)(p_b0:ak):Mo (ak):=
 .cH [0,1] (je p_p.fOp p_b0) fun r0 _=>
 .cH [0,3] (Gx p_p.cZ r0) fun r1 _=>
 .cH [0,4] (vg p_p.fArg r1) fun r2 _=>
 .cH [0,5] (adh p_p.fArgs r2) fun r3 _=>
 .cH [0,6] (je p_p.fN r3) fun r4 _=>
 .cH [0,7] (je p_p.fM r4) fun r5 _=>
 .cH [0,8] (je p_p.dH.ay r5) fun r6 _=>
 .cH [0,9] (alg p_p.dH.dD r6) fun r7 _=>
 .cH [0,10] (je p_p.dH.fR r7) fun r8 _=>
 .cH [0,11] (ahv p_p.fExpr r8) fun r9 _=>
 .cH [0,12] (R_.ok2 p_p.bV r9) fun r10 _=>
 .ret ⟨[.kill 2,.mvn 13],[],[(14,2)],3⟩ (r10)
theorem adn(R_:Zn):NS fun p_p p_b0=>Mo.den (NT R_ p_p p_b0):=fun _ _=>dQ Tryz.func138
def CQ(R_:Zn)(p_l:List aO):(Int×Bool×(List Int))→Mo ((Int×Bool×(List Int))⊕(Bool×(List Int))):=fun(v0,v1,l0)=>
 .iB (decide ((v0:Int)<(p_l.length:Int))) (.gx aO.aW p_l v0 fun x0 _=>
 .say [.at_ 10 3,.tod 20] ok0<|
 .cH [0,2] (R_.ok1 x0 (ak.mk l0 v1)) fun r0 _=>
 .ret ⟨[],[0,2,12,13,14],[(4,2)],3⟩ (.inl (IntKind.wrap .i64 (v0+1),r0.cu,r0.bg)))<|
 .rt [] 3 (.inr (v1,l0))
def NU(R_:Zn)(p_l:List aO)(p_b0:ak):Mo (ak):=
 .nu p_l aO.lf<|
 .ask (Q7 (p_l.length:Int) p_b0) fun r0 h0=>
 .say [.gy [0,1] (.tup []) [.box 75 (.agg [.own 2,.b_ r0.cu]),.dead,.row 5 1 (r0.bg.map (lfK .u8))],.num p_l.length] (okc (je _ _ _ h0) (ok1 (ln_ p_l aO.lf)))<|
 .l1 Tryz.f216 2 [1,1,0] 0 (.exit 0) (fun(v0,v1,l0)=>⟨[(0,.ptr 0 0),(2,.raw (.func (.func 138) #[] #[])),(12,.lf (.rows 25 (p_l.map aO.lf))),(13,.i_ (p_l.length:Int)),(14,.i_ v0)],[.box 75 (.agg [.own 2,.b_ v1]),.dead,.row 5 1 (l0.map (lfK .u8))]⟩) (fun r_=>⟨[],[.box 75 (.agg [.own 2,.b_ r_.1]),.dead,.row 5 1 (r_.2.map (lfK .u8))]⟩) (CQ R_ p_l) (0,r0.cu,r0.bg) fun r1=>
 .ret ⟨[.mvn 2],[],[(3,2)],3⟩ (ak.mk r1.2 r1.1)
theorem ado(R_:Zn):XA fun p_l p_b0=>Mo.den (NU R_ p_l p_b0):=fun _ _=>dQ Tryz.func216
def oO:Nat→Zn
 |0=>{ m1:=fun p_p p_b0=>none,ok1:=fun _ _ _ h=>(by cases h),m2:=fun p_l p_b0=>none,ok2:=fun _ _ _ h=>(by cases h) }
 |n_+1=>{ m1:=fun p_p p_b0=>Mo.den (NT (oO n_) p_p p_b0),ok1:=adn (oO n_),m2:=fun p_l p_b0=>Mo.den (NU (oO n_) p_l p_b0),ok2:=ado (oO n_) }
def amX(p_p:aO)(p_b0:ak):Option (ak):=(oO FU).m1 p_p p_b0
theorem ahw:NS amX:=(oO FU).ok1
def adp(p_x:aQ)(p_b0:ak):Mo (ak):=
 .cH [0,1] (uY p_x.fName p_b0) fun r0 _=>
 .cH [0,3] (je p_x.ay r0) fun r1 _=>
 .cH [0,4] (alf p_x.fQ r1) fun r2 _=>
 .cH [0,5] (qg p_x.dY r2) fun r3 _=>
 .cH [0,6] (qg p_x.jl r3) fun r4 _=>
 .cH [0,7] (qg p_x.gB r4) fun r5 _=>
 .cH [0,8] (ahw p_x.bF r5) fun r6 _=>
 .ret ⟨[.kill 2,.mvn 9],[],[(10,2)],3⟩ (r6)
def ahx(p_x:aQ)(p_b0:ak):Option (ak):=Mo.den (adp p_x p_b0)
theorem XB(p_x:aQ)(p_b0:ak):FH (ahx p_x p_b0) 78 [.ptr 0 0,.dat (aQ.lf1 p_x)] [.box 75 (.agg [.own 1,.b_ p_b0.cu]),.row 5 1 (p_b0.bg.map (lfK .u8))] (fun _=>.tup []) (fun r=>[.box 75 (.agg [.own 2,.b_ r.cu]),.dead,.row 5 1 (r.bg.map (lfK .u8))]):=dQ Tryz.func78
def GK(p_l:List aQ):(Int×Bool×(List Int))→Mo ((Int×Bool×(List Int))⊕(Bool×(List Int))):=fun(v0,v1,l0)=>
 .iB (decide ((v0:Int)<(p_l.length:Int))) (.gx aQ.aW p_l v0 fun x0 _=>
 .say [.at_ 10 3,.tod 20] ok0<|
 .cH [0,2] (XB x0 (ak.mk l0 v1)) fun r0 _=>
 .ret ⟨[],[0,2,12,13,14],[(4,2)],3⟩ (.inl (IntKind.wrap .i64 (v0+1),r0.cu,r0.bg)))<|
 .rt [] 3 (.inr (v1,l0))
def ajv(p_l:List aQ)(p_b0:ak):Mo (ak):=
 .nu p_l aQ.lf<|
 .ask (Q7 (p_l.length:Int) p_b0) fun r0 h0=>
 .say [.gy [0,1] (.tup []) [.box 75 (.agg [.own 2,.b_ r0.cu]),.dead,.row 5 1 (r0.bg.map (lfK .u8))],.num p_l.length] (okc (je _ _ _ h0) (ok1 (ln_ p_l aQ.lf)))<|
 .l1 Tryz.f134 2 [1,1,0] 0 (.exit 0) (fun(v0,v1,l0)=>⟨[(0,.ptr 0 0),(2,.raw (.func (.func 78) #[] #[])),(12,.lf (.rows 31 (p_l.map aQ.lf))),(13,.i_ (p_l.length:Int)),(14,.i_ v0)],[.box 75 (.agg [.own 2,.b_ v1]),.dead,.row 5 1 (l0.map (lfK .u8))]⟩) (fun r_=>⟨[],[.box 75 (.agg [.own 2,.b_ r_.1]),.dead,.row 5 1 (r_.2.map (lfK .u8))]⟩) (GK p_l) (0,r0.cu,r0.bg) fun r1=>
 .ret ⟨[.mvn 2],[],[(3,2)],3⟩ (ak.mk r1.2 r1.1)
def Q78(p_l:List aQ)(p_b0:ak):Option (ak):=Mo.den (ajv p_l p_b0)
theorem alh(p_l:List aQ)(p_b0:ak):FH (Q78 p_l p_b0) 134 [.ptr 0 0,.lf (.rows 31 (p_l.map aQ.lf)),.raw (.func (.func 78) #[] #[])] [.box 75 (.agg [.own 1,.b_ p_b0.cu]),.row 5 1 (p_b0.bg.map (lfK .u8))] (fun _=>.tup []) (fun r=>[.box 75 (.agg [.own 2,.b_ r.cu]),.dead,.row 5 1 (r.bg.map (lfK .u8))]):=dQ Tryz.func134
end
end Go.Proofs.YtflpefkohpjjpaaGreatDoor
