/- Contracts that were shown by hand (codec.Read by its printed reader). -/
import Derived.Test.YtflpefkohpjjpaaGreatDoorQXCr
set_option linter.unusedSimpArgs false
set_option linter.unusedVariables false
namespace Go.Proofs.YtflpefkohpjjpaaGreatDoor
open Go.RowKit
set_option maxRecDepth 20000
set_option maxHeartbeats 4000000
noncomputable section
def atn(p_n:Int):Mo (ah):=
 .ret (aU 1) (ah.mk 3 p_n ⟨#[]⟩ [] [])
def awl(p_n:Int):Option (ah):=Mo.den (atn p_n)
theorem V5(p_n:Int):FV (awl p_n) 74 [.i_ p_n] (fun r=>.dat (ah.lf1 r)):=dw Tryz.func74
def ato(p_stamp:Int)(p_key:Int)(p_id:Int):Mo (bY):=
 .cl (V5 p_id) fun r4 _=>
 .ask (awl p_key) fun r6 h7=>
 .say [.jf (.q 0 (.q 1 (.q 2 (.alt 3 (.l 4 (.q 5 (.q 6 (.l 7 .fin)))) (.l 4 (.l 3 (.q 5 (.q 6 (.l 7 .fin))))))))) (some 7) [] [.both [.res (.dat (ah.lf1 r6))] [.res (.dat (ah.lf1 r6))]] [6] 3 [(6,.ptr 0 0)] [.box 51 (ahK Z51 [(0,.i_ 1),(1,.i_ p_stamp),(4,.i_ 2),(5,.lf (.str ⟨#[115]⟩)),(6,.i_ r6.aF),(7,.i_ r6.eF),(8,.lf (.str r6.fText)),(9,.lf (.rows 5 (r6.aT.map ah.lf))),(10,.lf (.rows 6 (r6.aW.map aJ.lf))),(11,.i_ 5),(15,.own 1)]),.row 115 6 [(aJ.lf1 (aJ.mk ⟨#[95,105,100]⟩ r4))],.box 25 (.agg [.i_ 5,.i_ 0,.lf (.str ⟨#[]⟩),.cu 5,.own 1])],.at_ 0 0,.yg 1 ([aJ.mk ⟨#[95,105,100]⟩ r4].map aJ.lf)] (okc (V5 _ _ h7) (okc (rf_ ⟨[(6,.ptr 0 0)],[.box 51 (ahK Z51 [(0,.i_ 1),(1,.i_ p_stamp),(4,.i_ 2),(5,.lf (.str ⟨#[115]⟩)),(6,.i_ r6.aF),(7,.i_ r6.eF),(8,.lf (.str r6.fText)),(9,.lf (.rows 5 (r6.aT.map ah.lf))),(10,.lf (.rows 6 (r6.aW.map aJ.lf))),(11,.i_ 5),(15,.own 1)]),.row 115 6 [(aJ.lf1 (aJ.mk ⟨#[95,105,100]⟩ r4))],.box 25 (.agg [.i_ 5,.i_ 0,.lf (.str ⟨#[]⟩),.cu 5,.own 1])]⟩) (okc (V5 _ _ h7) (okc (rf_ ⟨[(6,.ptr 0 0)],[.box 51 (ahK Z51 [(0,.i_ 1),(1,.i_ p_stamp),(4,.i_ 2),(5,.lf (.str ⟨#[115]⟩)),(6,.i_ r6.aF),(7,.i_ r6.eF),(8,.lf (.str r6.fText)),(9,.lf (.rows 5 (r6.aT.map ah.lf))),(10,.lf (.rows 6 (r6.aW.map aJ.lf))),(11,.i_ 5),(15,.own 1)]),.row 115 6 [(aJ.lf1 (aJ.mk ⟨#[95,105,100]⟩ r4))],.box 25 (.agg [.i_ 5,.i_ 0,.lf (.str ⟨#[]⟩),.cu 5,.own 1])]⟩) (ok1 (by simp[aJ.aX]:[aJ.mk ⟨#[95,105,100]⟩ r4].map aJ.lf=[(aJ.lf1 (aJ.mk ⟨#[95,105,100]⟩ r4))]))))))<|
 .ret (aU 1) (bY.mk 1 p_stamp ⟨#[]⟩ 0 (aG.aoO (aG.aoN (aG.VJ (aG.I4 aG.z 2) ⟨#[115]⟩) r6) (ah.mk 5 0 ⟨#[]⟩ [] [aJ.mk ⟨#[95,105,100]⟩ r4])))
def axi(p_stamp:Int)(p_key:Int)(p_id:Int):Option (bY):=Mo.den (ato p_stamp p_key p_id)
theorem V6(p_stamp:Int)(p_key:Int)(p_id:Int):FV (axi p_stamp p_key p_id) 33 [.i_ p_stamp,.i_ p_key,.i_ p_id] (fun r=>.dat (bY.lf1 r)):=dw Tryz.func33
def kW(p_s:ByteArray):Mo (Bool):=
 .oV 4003 (decide (((p_s.size:Int):Int)<1)) [0,11] 0 (decide ((32:Int)<(p_s.size:Int)))
def kX(p_s:ByteArray)(r0:Bool):Mo (Bool):=
 .iG 4008 (r0) (.rt [0,16] 0 (true))<|
 .ask (jY p_s 0) fun b0 h0=>
 .say [.byt b0] (ok1 (eY h0))<|
 .rt [0,16] 0 ((b0.toNat:Int)==36)
def kY(p_s:ByteArray)(v0:Int):Mo (Bool):=
 .ask (jY p_s v0) fun b0 h0=>
 .say [.byt b0] (ok1 (eY h0))<|
 .iG 14004 (decide (((b0.toNat:Int):Int)<33)) (.rt [0,3,18,19,31] 0 (true))<|
 .ask (jY p_s v0) fun b1 h1=>
 .say [.byt b1] (ok1 (eY h1))<|
 .rt [0,3,18,19,31] 0 (decide ((126:Int)<(b1.toNat:Int)))
def kZ(p_s:ByteArray)(r0:Bool)(v0:Int):Mo (Bool):=
 .iG 14010 (r0) (.rt [0,18,19,37] 0 (true))<|
 .ask (jY p_s v0) fun b0 h0=>
 .say [.byt b0] (ok1 (eY h0))<|
 .rt [0,18,19,37] 0 ((b0.toNat:Int)==46)
def Qd(p_s:ByteArray):(Int)→Mo ((Int)⊕(Unit⊕Unit)):=fun(v0)=>
 .iB (decide ((v0:Int)<(p_s.size:Int))) (.sf Tryz.f29 0 [1,1,0,1,0,0,1,1,0,0,1,0] 0 10 6 [(0,.lf (.str p_s)),(3,.i_ v0),(18,.i_ (p_s.size:Int)),(19,.i_ v0)] [] 31 (kY p_s v0) fun r0=>
 .sk Tryz.f29 0 [1,1,0,1,0,0,1,1,0,0,1,0] 10 6 6 (fun r_=>⟨[(0,.lf (.str p_s)),(18,.i_ (p_s.size:Int)),(19,.i_ v0),(37,.b_ r_)],[]⟩) ⟨[(0,.lf (.str p_s)),(3,.i_ v0),(18,.i_ (p_s.size:Int)),(19,.i_ v0),(31,.b_ r0)],[]⟩ (kZ p_s r0 v0) fun r1=>
 .iB (r1) (.rt [2] 0 (.inr (.inl ())))<|
 .rt [0,18,19] 0 (.inl (IntKind.wrap .i64 (v0+1))))<|
 .rt [] 0 (.inr (.inr (())))
def ar2(p_s:ByteArray):Mo (Bool):=
 .sf Tryz.f29 0 [1,0,0] 0 8 1 [(0,.lf (.str p_s))] [] 11 (kW p_s) fun r0=>
 .sb Tryz.f29 0 [1,0,0] 8 5 1 [(0,.lf (.str p_s))] [] 11 16 r0 (kX p_s r0) fun r1=>
 .iB (r1) (.ret (aU 1) (false))<|
 .l2 Tryz.f29 0 [1,1,0,1,0] 0 (fun(v0)=>⟨[(0,.lf (.str p_s)),(18,.i_ (p_s.size:Int)),(19,.i_ v0)],[]⟩) .ret (fun _=>⟨[(2,.b_ false)],[]⟩) (.exit 0) (fun _=>⟨[],[]⟩) (Qd p_s) (0) (fun o0=>
 .ret (aU 1) (false)) fun o1=>
 .ret (aU 1) (true)
def Q14(p_s:ByteArray):Option (Bool):=Mo.den (ar2 p_s)
theorem V7(p_s:ByteArray):FV (Q14 p_s) 29 [.lf (.str p_s)] .b_:=dw Tryz.func29
def Ld(p_kind:Int):Mo (aN):=
 .iB (p_kind==2) (.ret (aU 1) (aN.ajR (aN.ahJ (aN.wR aN.z true) true) true))<|
 .iB (p_kind==3) (.ret (aU 1) (aN.ahJ (aN.wR aN.z true) true))<|
 .iB (p_kind==4) (.ret (aU 1) (aN.ajS aN.z true))<|
 .iB (p_kind==5) (.ret (aU 1) (aN.wR aN.z true))<|
 .iB (p_kind==6) (.ret (aU 1) (aN.KJ (aN.wR aN.z true) true))<|
 .iB (p_kind==7) (.ret (aU 1) (aN.rM (aN.wR aN.z true) true))<|
 .iB (p_kind==8) (.ret (aU 1) (aN.Ad aN.z true))<|
 .iB (p_kind==9) (.ret (aU 1) (aN.Ad (aN.Zg aN.z true) true))<|
 .iB (p_kind==10) (.ret (aU 1) (aN.Gn (aN.Zg aN.z true) true))<|
 .iB (p_kind==11) (.ret (aU 1) (aN.Zg aN.z true))<|
 .iB (p_kind==12) (.ret (aU 1) (aN.D6 (aN.Gn (aN.Zg aN.z true) true) true))<|
 .ret (aU 1) (aN.z)
def akk(p_kind:Int):Option (aN):=Mo.den (Ld p_kind)
theorem afG(p_kind:Int):FV (akk p_kind) 56 [.i_ p_kind] (fun r=>.dat (aN.lf1 r)):=dw Tryz.func56
def oW(p_v:ah):Mo (Bool):=
 .aV 4003 (p_v.aF==0) [1,2,10] 1 (p_v.eF==0)
def oZ(p_v:ah)(r0:Bool):Mo (Bool):=
 .aV 4008 (r0) [1,2,15] 1 (decide ((p_v.fText:ByteArray)=(⟨#[]⟩:ByteArray)))
def mW(p_v:ah)(r0:Bool):Mo (Bool):=
 .iG 4013 (r0) (.nu p_v.aT ah.lf<|
 .rt [1,2,21] 1 ((p_v.aT.length:Int)==0))<|
 .rt [1,2,21] 1 (false)
def mX(p_v:ah)(r0:Bool):Mo (Bool):=
 .iG 4019 (r0) (.nu p_v.aW aJ.lf<|
 .ret ⟨[.kill 0],[2,27],[],1⟩ ((p_v.aW.length:Int)==0))<|
 .ret ⟨[.kill 0],[2,27],[],1⟩ (false)
def dQ(r0:Bool):Mo (Unit):=
 .rt [2] 1 ()
def apb(p_v:ah):Mo (Bool):=
 .sf Tryz.f112 0 [1,0] 0 8 1 [(1,.ptr 0 0),(2,.b_ false)] [aZ p_v] 10 (oW p_v) fun r0=>
 .sb Tryz.f112 0 [1,0] 8 5 1 [(1,.ptr 0 0),(2,.b_ false)] [aZ p_v] 10 15 r0 (oZ p_v r0) fun r1=>
 .sb Tryz.f112 0 [1,0] 13 6 1 [(1,.ptr 0 0),(2,.b_ false)] [aZ p_v] 15 21 r1 (mW p_v r1) fun r2=>
 .sk Tryz.f112 0 [1,0] 19 6 1 (fun r_=>⟨[(2,.b_ false),(27,.b_ r_)],[.dead]⟩) ⟨[(1,.ptr 0 0),(2,.b_ false),(21,.b_ r2)],[aZ p_v]⟩ (mX p_v r2) fun r3=>
 .sk Tryz.f112 0 [1,0] 25 1 1 (fun r_=>⟨[(2,.b_ r3)],[.dead]⟩) ⟨[(2,.b_ false),(27,.b_ r3)],[.dead]⟩ (dQ r3) fun r4=>
 .ret (aU 1) (r3)
def Q0(p_v:ah):Option (Bool):=Mo.den (apb p_v)
theorem Eb(p_v:ah):FV (Q0 p_v) 112 [.dat (ah.lf1 p_v)] .b_:=dw Tryz.func112
def Zq(p_s:aI):Mo (Bool):=
 .aV 4003 (p_s.ig==0) [1,2,10] 1 (!p_s.iO)
def Zr(p_s:aI)(r0:Bool):Mo (Bool):=
 .aC 4008 (r0) [1,2,15] 1 (Eb p_s.kP)
def Qe(p_s:aI)(r0:Bool):Mo (Bool):=
 .aV 4013 (r0) [1,2,20] 1 (!p_s.iP)
def Qg(p_s:aI)(r0:Bool):Mo (Bool):=
 .aC 4018 (r0) [1,2,25] 1 (Eb p_s.kQ)
def Qh(p_s:aI)(r0:Bool):Mo (Bool):=
 .iG 4023 (r0) (.nu p_s.gZ ah.lf<|
 .rt [1,2,31] 1 ((p_s.gZ.length:Int)==0))<|
 .rt [1,2,31] 1 (false)
def Qi(p_s:aI)(r0:Bool):Mo (Bool):=
 .aV 4029 (r0) [1,2,36] 1 (p_s.jD==0)
def Qj(p_s:aI)(r0:Bool):Mo (Bool):=
 .aV 4034 (r0) [1,2,41] 1 (p_s.jE==0)
def Qk(p_s:aI)(r0:Bool):Mo (Bool):=
 .iG 4039 (r0) (.nu p_s.dW lfS<|
 .rt [1,2,47] 1 ((p_s.dW.length:Int)==0))<|
 .rt [1,2,47] 1 (false)
def Ql(p_s:aI)(r0:Bool):Mo (Bool):=
 .iG 4045 (r0) (.nu p_s.cZ bH.lf<|
 .rt [1,2,53] 1 ((p_s.cZ.length:Int)==0))<|
 .rt [1,2,53] 1 (false)
def Qm(p_s:aI)(r0:Bool):Mo (Bool):=
 .aV 4051 (r0) [1,2,58] 1 (!p_s.kG)
def Qn(p_s:aI)(r0:Bool):Mo (Bool):=
 .iG 4056 (r0) (.nu p_s.dV aI.lf<|
 .rt [1,2,64] 1 ((p_s.dV.length:Int)==0))<|
 .rt [1,2,64] 1 (false)
def Qo(p_s:aI)(r0:Bool):Mo (Bool):=
 .iG 4062 (r0) (.ret ⟨[.kill 0],[2,69],[],1⟩ (!p_s.fC))<|
 .ret ⟨[.kill 0],[2,69],[],1⟩ (false)
def akl(p_s:aI):Mo (Bool):=
 .sf Tryz.f252 0 [1,0] 0 8 1 [(1,.ptr 0 0),(2,.b_ false)] [gy p_s] 10 (Zq p_s) fun r0=>
 .sb Tryz.f252 0 [1,0] 8 5 1 [(1,.ptr 0 0),(2,.b_ false)] [gy p_s] 10 15 r0 (Zr p_s r0) fun r1=>
 .sb Tryz.f252 0 [1,0] 13 5 1 [(1,.ptr 0 0),(2,.b_ false)] [gy p_s] 15 20 r1 (Qe p_s r1) fun r2=>
 .sb Tryz.f252 0 [1,0] 18 5 1 [(1,.ptr 0 0),(2,.b_ false)] [gy p_s] 20 25 r2 (Qg p_s r2) fun r3=>
 .sb Tryz.f252 0 [1,0] 23 6 1 [(1,.ptr 0 0),(2,.b_ false)] [gy p_s] 25 31 r3 (Qh p_s r3) fun r4=>
 .sb Tryz.f252 0 [1,0] 29 5 1 [(1,.ptr 0 0),(2,.b_ false)] [gy p_s] 31 36 r4 (Qi p_s r4) fun r5=>
 .sb Tryz.f252 0 [1,0] 34 5 1 [(1,.ptr 0 0),(2,.b_ false)] [gy p_s] 36 41 r5 (Qj p_s r5) fun r6=>
 .sb Tryz.f252 0 [1,0] 39 6 1 [(1,.ptr 0 0),(2,.b_ false)] [gy p_s] 41 47 r6 (Qk p_s r6) fun r7=>
 .sb Tryz.f252 0 [1,0] 45 6 1 [(1,.ptr 0 0),(2,.b_ false)] [gy p_s] 47 53 r7 (Ql p_s r7) fun r8=>
 .sb Tryz.f252 0 [1,0] 51 5 1 [(1,.ptr 0 0),(2,.b_ false)] [gy p_s] 53 58 r8 (Qm p_s r8) fun r9=>
 .sb Tryz.f252 0 [1,0] 56 6 1 [(1,.ptr 0 0),(2,.b_ false)] [gy p_s] 58 64 r9 (Qn p_s r9) fun r10=>
 .sk Tryz.f252 0 [1,0] 62 5 1 (fun r_=>⟨[(2,.b_ false),(69,.b_ r_)],[.dead]⟩) ⟨[(1,.ptr 0 0),(2,.b_ false),(64,.b_ r10)],[gy p_s]⟩ (Qo p_s r10) fun r11=>
 .sk Tryz.f252 0 [1,0] 67 1 1 (fun r_=>⟨[(2,.b_ r11)],[.dead]⟩) ⟨[(2,.b_ false),(69,.b_ r11)],[.dead]⟩ (dQ r11) fun r12=>
 .ret (aU 1) (r11)
def Q22(p_s:aI):Option (Bool):=Mo.den (akl p_s)
theorem atp(p_s:aI):FV (Q22 p_s) 252 [.dat (aI.lf1 p_s)] .b_:=dw Tryz.func252
def Zt(p_d:bW):Mo (Bool):=
 .iG 4003 (decide ((p_d.fName:ByteArray)=(⟨#[]⟩:ByteArray))) (.nu p_d.bJ aS.lf<|
 .rt [1,2,11] 1 ((p_d.bJ.length:Int)==0))<|
 .rt [1,2,11] 1 (false)
def Zu(p_d:bW)(r0:Bool):Mo (Bool):=
 .aC 4009 (r0) [1,2,16] 1 (atp p_d.bn)
def Qp(p_d:bW)(r0:Bool):Mo (Bool):=
 .aV 4014 (r0) [1,2,21] 1 (p_d.jZ==0)
def Qq(p_d:bW)(r0:Bool):Mo (Bool):=
 .iG 4019 (r0) (.ret ⟨[.kill 0],[2,26],[],1⟩ (p_d.iI==0))<|
 .ret ⟨[.kill 0],[2,26],[],1⟩ (false)
def akm(p_d:bW):Mo (Bool):=
 .sf Tryz.f176 0 [1,0] 0 9 1 [(1,.ptr 0 0),(2,.b_ false)] [oG p_d] 11 (Zt p_d) fun r0=>
 .sb Tryz.f176 0 [1,0] 9 5 1 [(1,.ptr 0 0),(2,.b_ false)] [oG p_d] 11 16 r0 (Zu p_d r0) fun r1=>
 .sb Tryz.f176 0 [1,0] 14 5 1 [(1,.ptr 0 0),(2,.b_ false)] [oG p_d] 16 21 r1 (Qp p_d r1) fun r2=>
 .sk Tryz.f176 0 [1,0] 19 5 1 (fun r_=>⟨[(2,.b_ false),(26,.b_ r_)],[.dead]⟩) ⟨[(1,.ptr 0 0),(2,.b_ false),(21,.b_ r2)],[oG p_d]⟩ (Qq p_d r2) fun r3=>
 .sk Tryz.f176 0 [1,0] 24 1 1 (fun r_=>⟨[(2,.b_ r3)],[.dead]⟩) ⟨[(2,.b_ false),(26,.b_ r3)],[.dead]⟩ (dQ r3) fun r4=>
 .ret (aU 1) (r3)
def Q85(p_d:bW):Option (Bool):=Mo.den (akm p_d)
theorem atq(p_d:bW):FV (Q85 p_d) 176 [.dat (bW.lf1 p_d)] .b_:=dw Tryz.func176
def o7(p_e:aQ):Mo (Bool):=
 .iG 4003 (p_e.fOp==0) (.nu p_e.cO lfS<|
 .rt [1,2,11] 1 ((p_e.cO.length:Int)==0))<|
 .rt [1,2,11] 1 (false)
def o8(p_e:aQ)(r0:Bool):Mo (Bool):=
 .aV 4009 (r0) [1,2,16] 1 (decide ((p_e.fName:ByteArray)=(⟨#[]⟩:ByteArray)))
def nK(p_e:aQ)(r0:Bool):Mo (Bool):=
 .iG 4014 (r0) (.nu p_e.eu lfS<|
 .rt [1,2,22] 1 ((p_e.eu.length:Int)==0))<|
 .rt [1,2,22] 1 (false)
def Qr(p_e:aQ)(r0:Bool):Mo (Bool):=
 .aC 4020 (r0) [1,2,27] 1 (Eb p_e.fArg)
def nN(p_e:aQ)(r0:Bool):Mo (Bool):=
 .aV 4025 (r0) [1,2,32] 1 (p_e.fN==0)
def nO(p_e:aQ)(r0:Bool):Mo (Bool):=
 .iG 4030 (r0) (.nu p_e.bC aQ.lf<|
 .ret ⟨[.kill 0],[2,38],[],1⟩ ((p_e.bC.length:Int)==0))<|
 .ret ⟨[.kill 0],[2,38],[],1⟩ (false)
def akn(p_e:aQ):Mo (Bool):=
 .sf Tryz.f297 0 [1,0] 0 9 1 [(1,.ptr 0 0),(2,.b_ false)] [dM p_e] 11 (o7 p_e) fun r0=>
 .sb Tryz.f297 0 [1,0] 9 5 1 [(1,.ptr 0 0),(2,.b_ false)] [dM p_e] 11 16 r0 (o8 p_e r0) fun r1=>
 .sb Tryz.f297 0 [1,0] 14 6 1 [(1,.ptr 0 0),(2,.b_ false)] [dM p_e] 16 22 r1 (nK p_e r1) fun r2=>
 .sb Tryz.f297 0 [1,0] 20 5 1 [(1,.ptr 0 0),(2,.b_ false)] [dM p_e] 22 27 r2 (Qr p_e r2) fun r3=>
 .sb Tryz.f297 0 [1,0] 25 5 1 [(1,.ptr 0 0),(2,.b_ false)] [dM p_e] 27 32 r3 (nN p_e r3) fun r4=>
 .sk Tryz.f297 0 [1,0] 30 6 1 (fun r_=>⟨[(2,.b_ false),(38,.b_ r_)],[.dead]⟩) ⟨[(1,.ptr 0 0),(2,.b_ false),(32,.b_ r4)],[dM p_e]⟩ (nO p_e r4) fun r5=>
 .sk Tryz.f297 0 [1,0] 36 1 1 (fun r_=>⟨[(2,.b_ r5)],[.dead]⟩) ⟨[(2,.b_ false),(38,.b_ r5)],[.dead]⟩ (dQ r5) fun r6=>
 .ret (aU 1) (r5)
def Q11(p_e:aQ):Option (Bool):=Mo.den (akn p_e)
theorem atr(p_e:aQ):FV (Q11 p_e) 297 [.dat (aQ.lf1 p_e)] .b_:=dw Tryz.func297
def uY(p_p:aO):Mo (Bool):=
 .iG 4003 (p_p.fOp==0) (.nu p_p.cO lfS<|
 .rt [1,2,11] 1 ((p_p.cO.length:Int)==0))<|
 .rt [1,2,11] 1 (false)
def Zv(p_p:aO)(r0:Bool):Mo (Bool):=
 .aC 4009 (r0) [1,2,16] 1 (Eb p_p.fArg)
def Af(p_p:aO)(r0:Bool):Mo (Bool):=
 .iG 4014 (r0) (.nu p_p.fArgs ah.lf<|
 .rt [1,2,22] 1 ((p_p.fArgs.length:Int)==0))<|
 .rt [1,2,22] 1 (false)
def Ag(p_p:aO)(r0:Bool):Mo (Bool):=
 .aV 4020 (r0) [1,2,27] 1 (p_p.fN==0)
def Ah(p_p:aO)(r0:Bool):Mo (Bool):=
 .aV 4025 (r0) [1,2,32] 1 (p_p.fM==0)
def Ai(p_p:aO)(r0:Bool):Mo (Bool):=
 .aV 4030 (r0) [1,2,38] 1 (p_p.dI.aF==0)
def Aj(p_p:aO)(r0:Bool):Mo (Bool):=
 .iG 4036 (r0) (.nu p_p.dI.bG bU.lf<|
 .rt [1,2,45] 1 ((p_p.dI.bG.length:Int)==0))<|
 .rt [1,2,45] 1 (false)
def Ak(p_p:aO)(r0:Bool):Mo (Bool):=
 .aV 4043 (r0) [1,2,51] 1 (p_p.dI.fR==0)
def Qs(p_p:aO)(r0:Bool):Mo (Bool):=
 .aC 4049 (r0) [1,2,56] 1 (atr p_p.fExpr)
def Am(p_p:aO)(r0:Bool):Mo (Bool):=
 .iG 4054 (r0) (.nu p_p.bC aO.lf<|
 .ret ⟨[.kill 0],[2,62],[],1⟩ ((p_p.bC.length:Int)==0))<|
 .ret ⟨[.kill 0],[2,62],[],1⟩ (false)
def ako(p_p:aO):Mo (Bool):=
 .sf Tryz.f253 0 [1,0] 0 9 1 [(1,.ptr 0 0),(2,.b_ false)] [dA p_p] 11 (uY p_p) fun r0=>
 .sb Tryz.f253 0 [1,0] 9 5 1 [(1,.ptr 0 0),(2,.b_ false)] [dA p_p] 11 16 r0 (Zv p_p r0) fun r1=>
 .sb Tryz.f253 0 [1,0] 14 6 1 [(1,.ptr 0 0),(2,.b_ false)] [dA p_p] 16 22 r1 (Af p_p r1) fun r2=>
 .sb Tryz.f253 0 [1,0] 20 5 1 [(1,.ptr 0 0),(2,.b_ false)] [dA p_p] 22 27 r2 (Ag p_p r2) fun r3=>
 .sb Tryz.f253 0 [1,0] 25 5 1 [(1,.ptr 0 0),(2,.b_ false)] [dA p_p] 27 32 r3 (Ah p_p r3) fun r4=>
 .sb Tryz.f253 0 [1,0] 30 6 1 [(1,.ptr 0 0),(2,.b_ false)] [dA p_p] 32 38 r4 (Ai p_p r4) fun r5=>
 .sb Tryz.f253 0 [1,0] 36 7 1 [(1,.ptr 0 0),(2,.b_ false)] [dA p_p] 38 45 r5 (Aj p_p r5) fun r6=>
 .sb Tryz.f253 0 [1,0] 43 6 1 [(1,.ptr 0 0),(2,.b_ false)] [dA p_p] 45 51 r6 (Ak p_p r6) fun r7=>
 .sb Tryz.f253 0 [1,0] 49 5 1 [(1,.ptr 0 0),(2,.b_ false)] [dA p_p] 51 56 r7 (Qs p_p r7) fun r8=>
 .sk Tryz.f253 0 [1,0] 54 6 1 (fun r_=>⟨[(2,.b_ false),(62,.b_ r_)],[.dead]⟩) ⟨[(1,.ptr 0 0),(2,.b_ false),(56,.b_ r8)],[dA p_p]⟩ (Am p_p r8) fun r9=>
 .sk Tryz.f253 0 [1,0] 60 1 1 (fun r_=>⟨[(2,.b_ r9)],[.dead]⟩) ⟨[(2,.b_ false),(62,.b_ r9)],[.dead]⟩ (dQ r9) fun r10=>
 .ret (aU 1) (r9)
def Q17(p_p:aO):Option (Bool):=Mo.den (ako p_p)
theorem att(p_p:aO):FV (Q17 p_p) 253 [.dat (aO.lf1 p_p)] .b_:=dw Tryz.func253
def Zw(p_x:aS):Mo (Bool):=
 .aV 4003 (decide ((p_x.fName:ByteArray)=(⟨#[]⟩:ByteArray))) [1,2,10] 1 (p_x.aF==0)
def Zx(p_x:aS)(r0:Bool):Mo (Bool):=
 .iG 4008 (r0) (.nu p_x.fA aY.lf<|
 .rt [1,2,16] 1 ((p_x.fA.length:Int)==0))<|
 .rt [1,2,16] 1 (false)
def Qu(p_x:aS)(r0:Bool):Mo (Bool):=
 .aV 4014 (r0) [1,2,21] 1 (!p_x.fC)
def Qv(p_x:aS)(r0:Bool):Mo (Bool):=
 .aV 4019 (r0) [1,2,26] 1 (!p_x.jS)
def Qw(p_x:aS)(r0:Bool):Mo (Bool):=
 .aV 4024 (r0) [1,2,31] 1 (!p_x.iE)
def Qx(p_x:aS)(r0:Bool):Mo (Bool):=
 .iG 4029 (r0) (.cl (att p_x.bM) fun r1 _=>
 .ret ⟨[.kill 0],[2,36],[],1⟩ (r1))<|
 .ret ⟨[.kill 0],[2,36],[],1⟩ (false)
def akp(p_x:aS):Mo (Bool):=
 .sf Tryz.f177 0 [1,0] 0 8 1 [(1,.ptr 0 0),(2,.b_ false)] [nS p_x] 10 (Zw p_x) fun r0=>
 .sb Tryz.f177 0 [1,0] 8 6 1 [(1,.ptr 0 0),(2,.b_ false)] [nS p_x] 10 16 r0 (Zx p_x r0) fun r1=>
 .sb Tryz.f177 0 [1,0] 14 5 1 [(1,.ptr 0 0),(2,.b_ false)] [nS p_x] 16 21 r1 (Qu p_x r1) fun r2=>
 .sb Tryz.f177 0 [1,0] 19 5 1 [(1,.ptr 0 0),(2,.b_ false)] [nS p_x] 21 26 r2 (Qv p_x r2) fun r3=>
 .sb Tryz.f177 0 [1,0] 24 5 1 [(1,.ptr 0 0),(2,.b_ false)] [nS p_x] 26 31 r3 (Qw p_x r3) fun r4=>
 .sk Tryz.f177 0 [1,0] 29 5 1 (fun r_=>⟨[(2,.b_ false),(36,.b_ r_)],[.dead]⟩) ⟨[(1,.ptr 0 0),(2,.b_ false),(31,.b_ r4)],[nS p_x]⟩ (Qx p_x r4) fun r5=>
 .sk Tryz.f177 0 [1,0] 34 1 1 (fun r_=>⟨[(2,.b_ r5)],[.dead]⟩) ⟨[(2,.b_ false),(36,.b_ r5)],[.dead]⟩ (dQ r5) fun r6=>
 .ret (aU 1) (r5)
def Q62(p_x:aS):Option (Bool):=Mo.den (akp p_x)
theorem atu(p_x:aS):FV (Q62 p_x) 177 [.dat (aS.lf1 p_x)] .b_:=dw Tryz.func177
def Zy(p_w:aG):Mo (Bool):=
 .aV 4003 (p_w.aF==0) [1,2,10] 1 (decide ((p_w.fV:ByteArray)=(⟨#[]⟩:ByteArray)))
def Zz(p_w:aG)(r0:Bool):Mo (Bool):=
 .aC 4008 (r0) [1,2,15] 1 (Eb p_w.fZ)
def Qy(p_w:aG)(r0:Bool):Mo (Bool):=
 .aC 4013 (r0) [1,2,20] 1 (Eb p_w.aW)
def Qz(p_w:aG)(r0:Bool):Mo (Bool):=
 .aC 4018 (r0) [1,2,25] 1 (Eb p_w.dG)
def QA(p_w:aG)(r0:Bool):Mo (Bool):=
 .aC 4023 (r0) [1,2,30] 1 (atq p_w.dO)
def QB(p_w:aG)(r0:Bool):Mo (Bool):=
 .aC 4028 (r0) [1,2,35] 1 (atu p_w.bf)
def QC(p_w:aG)(r0:Bool):Mo (Bool):=
 .aV 4033 (r0) [1,2,40] 1 (decide ((p_w.mO:ByteArray)=(⟨#[]⟩:ByteArray)))
def QD(p_w:aG)(r0:Bool):Mo (Bool):=
 .aV 4038 (r0) [1,2,45] 1 (p_w.dU==0)
def QE(p_w:aG)(r0:Bool):Mo (Bool):=
 .iG 4043 (r0) (.nu p_w.bP aG.lf<|
 .rt [1,2,51] 1 ((p_w.bP.length:Int)==0))<|
 .rt [1,2,51] 1 (false)
def QF(p_w:aG)(r0:Bool):Mo (Bool):=
 .iG 4049 (r0) (.nu p_w.dK lfI<|
 .rt [1,2,57] 1 ((p_w.dK.length:Int)==0))<|
 .rt [1,2,57] 1 (false)
def QG(p_w:aG)(r0:Bool):Mo (Bool):=
 .iG 4055 (r0) (.ret ⟨[.kill 0],[2,62],[],1⟩ (!p_w.gq))<|
 .ret ⟨[.kill 0],[2,62],[],1⟩ (false)
def akq(p_w:aG):Mo (Bool):=
 .sf Tryz.f109 0 [1,0] 0 8 1 [(1,.ptr 0 0),(2,.b_ false)] [dP p_w] 10 (Zy p_w) fun r0=>
 .sb Tryz.f109 0 [1,0] 8 5 1 [(1,.ptr 0 0),(2,.b_ false)] [dP p_w] 10 15 r0 (Zz p_w r0) fun r1=>
 .sb Tryz.f109 0 [1,0] 13 5 1 [(1,.ptr 0 0),(2,.b_ false)] [dP p_w] 15 20 r1 (Qy p_w r1) fun r2=>
 .sb Tryz.f109 0 [1,0] 18 5 1 [(1,.ptr 0 0),(2,.b_ false)] [dP p_w] 20 25 r2 (Qz p_w r2) fun r3=>
 .sb Tryz.f109 0 [1,0] 23 5 1 [(1,.ptr 0 0),(2,.b_ false)] [dP p_w] 25 30 r3 (QA p_w r3) fun r4=>
 .sb Tryz.f109 0 [1,0] 28 5 1 [(1,.ptr 0 0),(2,.b_ false)] [dP p_w] 30 35 r4 (QB p_w r4) fun r5=>
 .sb Tryz.f109 0 [1,0] 33 5 1 [(1,.ptr 0 0),(2,.b_ false)] [dP p_w] 35 40 r5 (QC p_w r5) fun r6=>
 .sb Tryz.f109 0 [1,0] 38 5 1 [(1,.ptr 0 0),(2,.b_ false)] [dP p_w] 40 45 r6 (QD p_w r6) fun r7=>
 .sb Tryz.f109 0 [1,0] 43 6 1 [(1,.ptr 0 0),(2,.b_ false)] [dP p_w] 45 51 r7 (QE p_w r7) fun r8=>
 .sb Tryz.f109 0 [1,0] 49 6 1 [(1,.ptr 0 0),(2,.b_ false)] [dP p_w] 51 57 r8 (QF p_w r8) fun r9=>
 .sk Tryz.f109 0 [1,0] 55 5 1 (fun r_=>⟨[(2,.b_ false),(62,.b_ r_)],[.dead]⟩) ⟨[(1,.ptr 0 0),(2,.b_ false),(57,.b_ r9)],[dP p_w]⟩ (QG p_w r9) fun r10=>
 .sk Tryz.f109 0 [1,0] 60 1 1 (fun r_=>⟨[(2,.b_ r10)],[.dead]⟩) ⟨[(2,.b_ false),(62,.b_ r10)],[.dead]⟩ (dQ r10) fun r11=>
 .ret (aU 1) (r10)
def Q28(p_w:aG):Option (Bool):=Mo.den (akq p_w)
theorem atv(p_w:aG):FV (Q28 p_w) 109 [.dat (aG.lf1 p_w)] .b_:=dw Tryz.func109
def Lh(p_w:aG)(r0:aN):Mo (aG):=
 .iB (r0.pK) (.rt [1,3] 2 (aG.VJ (aG.I4 p_w 0) ⟨#[]⟩))<|
 .rt [1,3] 2 (aG.I4 p_w 0)
def Lj(r0:aN)(r1:aG):Mo (aG):=
 .iB (r0.D5) (.ret ⟨[.norm 0],[1,3],[],2⟩ (aG.VP (aG.VK (aG.aoN r1 (ah.mk 0 0 ⟨#[]⟩ [] [])) (ah.mk 0 0 ⟨#[]⟩ [] [])) false))<|
 .rt [1,3] 2 (r1)
def Gy(r0:aN)(r1:aG):Mo (aG):=
 .iB (r0.Jr) (.ret ⟨[.norm 0],[1,3],[],2⟩ (aG.aoO r1 (ah.mk 0 0 ⟨#[]⟩ [] [])))<|
 .rt [1,3] 2 (r1)
def Gz(r0:aN)(r1:aG):Mo (aG):=
 .iB (r0.Js) (.ret ⟨[.norm 0],[1,3],[],2⟩ (aG.as3 r1 (bW.mk ⟨#[]⟩ [] aI.z 0 0)))<|
 .rt [1,3] 2 (r1)
def GH(r0:aN)(r1:aG):Mo (aG):=
 .iB (r0.qI) (.ret ⟨[.norm 0],[1,3],[],2⟩ (aG.VL r1 aS.z))<|
 .rt [1,3] 2 (r1)
def GK(r0:aN)(r1:aG):Mo (aG):=
 .iB (r0.jv) (.rt [1,3] 2 (aG.VL r1 (aS.P7 r1.bf ⟨#[]⟩)))<|
 .rt [1,3] 2 (r1)
def GL(r0:aN)(r1:aG):Mo (aG):=
 .iB (r0.Gm) (.rt [1,3] 2 (aG.as4 r1 ⟨#[]⟩))<|
 .rt [1,3] 2 (r1)
def GN(r0:aN)(r1:aG):Mo (aG):=
 .iB (r0.pO) (.rt [1,3] 2 (aG.acB r1 0))<|
 .rt [1,3] 2 (r1)
def GU(r0:aN)(r1:aG):Mo (aG):=
 .iB (r0.nI) (.ret ⟨[.norm 0],[1,3],[],2⟩ (aG.VN r1 []))<|
 .rt [1,3] 2 (r1)
def GV(r0:aN)(r1:aG):Mo (aG):=
 .iB (r0.nJ) (.ret ⟨[.norm 0],[1],[],2⟩ (aG.VO r1 []))<|
 .rt [1] 2 (r1)
def akr(p_w:aG):Mo (Bool):=
 .cl (afG p_w.aF) fun r0 _=>
 .jk Tryz.f57 0 [1,1,1,0,1] 1 (fun r_=>⟨[(1,.ptr 0 0),(3,.ptr 1 0)],[dP r_,.box 104 (.agg ((aN.lf1 r0).map AV.lf))]⟩) ⟨[(1,.ptr 0 0),(3,.ptr 1 0),(9,.b_ r0.pK)],[.box 49 (.dat (aG.lf1 (aG.I4 p_w 0))),.box 104 (.agg ((aN.lf1 r0).map AV.lf))]⟩ (Lh p_w r0) fun r1=>
 .jk Tryz.f57 0 [1,1,1,1,0,1] 1 (fun r_=>⟨[(1,.ptr 0 0),(3,.ptr 1 0)],[dP r_,.box 104 (.agg ((aN.lf1 r0).map AV.lf))]⟩) ⟨[(1,.ptr 0 0),(3,.ptr 1 0),(12,.b_ r0.D5)],[dP r1,.box 104 (.agg ((aN.lf1 r0).map AV.lf))]⟩ (Lj r0 r1) fun r2=>
 .jk Tryz.f57 0 [1,1,1,1,1,0,1] 1 (fun r_=>⟨[(1,.ptr 0 0),(3,.ptr 1 0)],[dP r_,.box 104 (.agg ((aN.lf1 r0).map AV.lf))]⟩) ⟨[(1,.ptr 0 0),(3,.ptr 1 0),(19,.b_ r0.Jr)],[dP r2,.box 104 (.agg ((aN.lf1 r0).map AV.lf))]⟩ (Gy r0 r2) fun r3=>
 .jk Tryz.f57 0 [1,1,1,1,1,1,0,1] 1 (fun r_=>⟨[(1,.ptr 0 0),(3,.ptr 1 0)],[dP r_,.box 104 (.agg ((aN.lf1 r0).map AV.lf))]⟩) ⟨[(1,.ptr 0 0),(3,.ptr 1 0),(23,.b_ r0.Js)],[dP r3,.box 104 (.agg ((aN.lf1 r0).map AV.lf))]⟩ (Gz r0 r3) fun r4=>
 .jk Tryz.f57 0 [1,1,1,1,1,1,1,0,1] 1 (fun r_=>⟨[(1,.ptr 0 0),(3,.ptr 1 0)],[dP r_,.box 104 (.agg ((aN.lf1 r0).map AV.lf))]⟩) ⟨[(1,.ptr 0 0),(3,.ptr 1 0),(27,.b_ r0.qI)],[dP r4,.box 104 (.agg ((aN.lf1 r0).map AV.lf))]⟩ (GH r0 r4) fun r5=>
 .jk Tryz.f57 0 [1,1,1,1,1,1,1,1,0,1] 1 (fun r_=>⟨[(1,.ptr 0 0),(3,.ptr 1 0)],[dP r_,.box 104 (.agg ((aN.lf1 r0).map AV.lf))]⟩) ⟨[(1,.ptr 0 0),(3,.ptr 1 0),(31,.b_ r0.jv)],[dP r5,.box 104 (.agg ((aN.lf1 r0).map AV.lf))]⟩ (GK r0 r5) fun r6=>
 .jk Tryz.f57 0 [1,1,1,1,1,1,1,1,1,0,1] 1 (fun r_=>⟨[(1,.ptr 0 0),(3,.ptr 1 0)],[dP r_,.box 104 (.agg ((aN.lf1 r0).map AV.lf))]⟩) ⟨[(1,.ptr 0 0),(3,.ptr 1 0),(35,.b_ r0.Gm)],[dP r6,.box 104 (.agg ((aN.lf1 r0).map AV.lf))]⟩ (GL r0 r6) fun r7=>
 .jk Tryz.f57 0 [1,1,1,1,1,1,1,1,1,1,0,1] 1 (fun r_=>⟨[(1,.ptr 0 0),(3,.ptr 1 0)],[dP r_,.box 104 (.agg ((aN.lf1 r0).map AV.lf))]⟩) ⟨[(1,.ptr 0 0),(3,.ptr 1 0),(38,.b_ r0.pO)],[dP r7,.box 104 (.agg ((aN.lf1 r0).map AV.lf))]⟩ (GN r0 r7) fun r8=>
 .jk Tryz.f57 0 [1,1,1,1,1,1,1,1,1,1,1,0,1] 1 (fun r_=>⟨[(1,.ptr 0 0),(3,.ptr 1 0)],[dP r_,.box 104 (.agg ((aN.lf1 r0).map AV.lf))]⟩) ⟨[(1,.ptr 0 0),(3,.ptr 1 0),(41,.b_ r0.nI)],[dP r8,.box 104 (.agg ((aN.lf1 r0).map AV.lf))]⟩ (GU r0 r8) fun r9=>
 .jy [.kill 1] Tryz.f57 0 [1,1,1,1,1,1,1,1,1,1,1,1,0,1] 1 (.normal) (fun r_=>⟨[(1,.ptr 0 0)],[dP r_,.dead]⟩) ⟨[(1,.ptr 0 0),(44,.b_ r0.nJ)],[dP r9,.dead]⟩ (GV r0 r9) fun r10=>
 .cl (atv r10) fun r11 _=>
 .ret (aU 1) (r11)
def Q24(p_w:aG):Option (Bool):=Mo.den (akr p_w)
theorem atw(p_w:aG):FV (Q24 p_w) 57 [.dat (aG.lf1 p_w)] .b_:=dw Tryz.func57
def QH(p_w:aG):Mo (Int):=
 .iB (p_w.aF==12) (.rt [1,3] 1 (0))<|
 .rt [1,3] 1 (1)
def acQ(p_w:aG):Mo (Bool):=
 .jk Tryz.f58 0 [1,1,0,1] 1 (fun r_=>⟨[(1,.ptr 0 0),(3,.i_ r_)],[dP p_w]⟩) ⟨[(1,.ptr 0 0),(3,.i_ 1),(6,.lf (.bool (p_w.aF==12)))],[dP p_w]⟩ (QH p_w) fun r0=>
 .iG 10004 (decide ((r0:Int)≤p_w.dU)) (.ret (aU 1) (decide ((p_w.dU:Int)≤1099511627776)))<|
 .ret (aU 1) (false)
def atx(p_w:aG):Option (Bool):=Mo.den (acQ p_w)
theorem apc(p_w:aG):FV (atx p_w) 58 [.dat (aG.lf1 p_w)] .b_:=dw Tryz.func58
def Ll(p_l:List Int)(v0:Int)(x0:Int):Mo (Bool):=
 .oV 10002 (decide ((x0:Int)<0)) [0,3,4,5,6,7,17] 0 (decide ((8:Int)≤x0))
def Lm(p_l:List Int)(r0:Bool)(v0:Int)(x0:Int):Mo (Bool):=
 .iG 10006 (r0) (.rt [0,5,6,7,30] 0 (true))<|
 .iG 10009 (decide ((0:Int)<v0)) (.gx lI_ p_l (IntKind.wrap .i64 (v0-1)) fun x1 _=>
 .rt [0,5,6,7,30] 0 (decide ((x0:Int)≤x1)))<|
 .rt [0,5,6,7,30] 0 (false)
def uZ(p_l:List Int):(Int)→Mo ((Int)⊕(Unit⊕Unit)):=fun(v0)=>
 .iB (decide ((v0:Int)<(p_l.length:Int))) (.gx lI_ p_l v0 fun x0 _=>
 .sf Tryz.f59 0 [1,0,1,0,0,1,1,0,0,1,0] 0 6 4 [(0,.lf (.rows 1 (p_l.map lfI))),(3,.i_ v0),(4,.i_ x0),(5,.lf (.rows 1 (p_l.map lfI))),(6,.i_ (p_l.length:Int)),(7,.i_ v0)] [] 17 (Ll p_l v0 x0) fun r0=>
 .sk Tryz.f59 0 [1,0,1,0,0,1,1,0,0,1,0] 6 13 4 (fun r_=>⟨[(0,.lf (.rows 1 (p_l.map lfI))),(5,.lf (.rows 1 (p_l.map lfI))),(6,.i_ (p_l.length:Int)),(7,.i_ v0),(30,.b_ r_)],[]⟩) ⟨[(0,.lf (.rows 1 (p_l.map lfI))),(3,.i_ v0),(4,.i_ x0),(5,.lf (.rows 1 (p_l.map lfI))),(6,.i_ (p_l.length:Int)),(7,.i_ v0),(17,.b_ r0)],[]⟩ (Lm p_l r0 v0 x0) fun r1=>
 .iB (r1) (.rt [2] 0 (.inr (.inl ())))<|
 .rt [0,5,6,7] 0 (.inl (IntKind.wrap .i64 (v0+1))))<|
 .rt [0] 0 (.inr (.inr (())))
def V8(p_l:List Int)(v0:Int):Option (Unit⊕Unit):=bV (fun v_=>(uZ p_l v_).den) FU (v0)
def aks(p_l:List Int):Mo (Bool):=
 .nu p_l lfI<|
 .l2m [] Tryz.f59 0 [1,0,1,0] 0 (fun(v0)=>⟨[(0,.lf (.rows 1 (p_l.map lfI))),(5,.lf (.rows 1 (p_l.map lfI))),(6,.i_ (p_l.length:Int)),(7,.i_ v0)],[]⟩) .ret (fun _=>⟨[(2,.b_ false)],[]⟩) (.exit 0) (fun _=>⟨[(0,.lf (.rows 1 (p_l.map lfI)))],[]⟩) (V8 p_l 0) (uZ p_l) (0) (fun o0=>
 .ret (aU 1) (false)) fun o1=>
 .nu p_l lfI<|
 .ret (aU 1) (decide ((0:Int)<(p_l.length:Int)))
def Q57(p_l:List Int):Option (Bool):=Mo.den (aks p_l)
theorem aty(p_l:List Int):FV (Q57 p_l) 59 [.lf (.rows 1 (p_l.map lfI))] .b_:=dw Tryz.func59
abbrev acR(m:ah→Int→Option (Int)):Prop:=∀p_v p_most,FV (m p_v p_most) 274 [.dat (ah.lf1 p_v),.i_ p_most] .i_
abbrev akt(m:ah→Int→Int→Option (Int×Int)):Prop:=∀p_v p_b0 p_b1,FH (m p_v p_b0 p_b1) 323 [.dat (ah.lf1 p_v),.clo 324 [.ptr 0 0,.ptr 1 0]] [.box 3 (.dat [(.int .i64 p_b0)]),.box 3 (.dat [(.int .i64 p_b1)])] (fun _=>.tup []) (fun r=>[.box 3 (.dat [(.int .i64 r.1)]),.box 3 (.dat [(.int .i64 r.2)])])
abbrev aku(m:ah→Int→Int→Option (Bool×Int×Int)):Prop:=∀p_p p_b0 p_b1,FH (m p_p p_b0 p_b1) 324 [.dat (ah.lf1 p_p),.ptr 0 0,.ptr 1 0] [.box 3 (.dat [(.int .i64 p_b0)]),.box 3 (.dat [(.int .i64 p_b1)])] (fun r=>.b_ r.1) (fun r=>[.box 3 (.dat [(.int .i64 r.2.1)]),.box 3 (.dat [(.int .i64 r.2.2)])])
structure RB2 where
 m1:(p_v:ah)→(p_most:Int)→Option (Int)
 ok1:acR m1
 m2:(p_v:ah)→(p_b0:Int)→(p_b1:Int)→Option (Int×Int)
 ok2:akt m2
 m3:(p_p:ah)→(p_b0:Int)→(p_b1:Int)→Option (Bool×Int×Int)
 ok3:aku m3
def V9(R_:RB2)(p_v:ah)(p_most:Int):Mo (Int):=
 .iB (1==p_most) (.ret (aU 1) (1))<|
 .cH [2,1] (R_.ok2 p_v 1 p_most) fun r0 _=>
 .ret (aU 1) (r0.1)
theorem akv(R_:RB2):acR fun p_v p_most=>Mo.den (V9 R_ p_v p_most):=fun _ _=>dw Tryz.func274
def Aq(R_:RB2)(p_v:ah):(Int×Int×Int)→Mo ((Int×Int×Int)⊕(Int×Int)⊕(Int×Int)):=fun(v0,v1,v2)=>
 .iB (decide ((v0:Int)<(p_v.aT.length:Int))) (.gx ah.aX p_v.aT v0 fun x0 _=>
 .say [.at_ 14 2,.tod 20] ok0<|
 .cH [0,1] (R_.ok3 x0 v1 v2) fun r0 _=>
 .iB (!r0.1) (.rt [] 3 (.inr (.inl (r0.2.1,r0.2.2))))<|
 .rt [1,13,14,15] 3 (.inl (IntKind.wrap .i64 (v0+1),r0.2.1,r0.2.2)))<|
 .rt [] 3 (.inr (.inr ((v1,v2))))
def afH(R_:RB2)(p_v:ah)(v0:Int)(v1:Int)(v2:Int):Option ((Int×Int)⊕(Int×Int)):=bV (fun v_=>(Aq R_ p_v v_).den) FU (v0,v1,v2)
def Ar(R_:RB2)(p_v:ah):(Int×Int×Int)→Mo ((Int×Int×Int)⊕(Int×Int)⊕(Int×Int)):=fun(v0,v1,v2)=>
 .iB (decide ((v0:Int)<(p_v.aW.length:Int))) (.gx aJ.aX p_v.aW v0 fun x0 _=>
 .say [.at_ 26 3,.tod 35] ok0<|
 .cH [0,1] (R_.ok3 x0.fValue v1 v2) fun r0 _=>
 .iB (!r0.1) (.rt [] 3 (.inr (.inl (r0.2.1,r0.2.2))))<|
 .rt [1,27,28,29] 3 (.inl (IntKind.wrap .i64 (v0+1),r0.2.1,r0.2.2)))<|
 .rt [] 3 (.inr (.inr ((v1,v2))))
def afI(R_:RB2)(p_v:ah)(v0:Int)(v1:Int)(v2:Int):Option ((Int×Int)⊕(Int×Int)):=bV (fun v_=>(Ar R_ p_v v_).den) FU (v0,v1,v2)
def Lp(R_:RB2)(p_v:ah)(p_b0:Int)(p_b1:Int):Mo (Int×Int):=
 .iB (p_v.aF==6) (.nu p_v.aT ah.lf<|
 .l2m [.kill 2] Tryz.f323 2 [1,1,0,1,0,1,0] 0 (fun(v0,v1,v2)=>⟨[(1,.clo 324 [.ptr 0 0,.ptr 1 0]),(13,.lf (.rows 5 (p_v.aT.map ah.lf))),(14,.i_ (p_v.aT.length:Int)),(15,.i_ v0)],[.box 3 (.dat [(.int .i64 v1)]),.box 3 (.dat [(.int .i64 v2)]),.dead]⟩) .ret (fun o_=>⟨[],[.box 3 (.dat [(.int .i64 o_.1)]),.box 3 (.dat [(.int .i64 o_.2)]),.dead]⟩) (.exit 1) (fun o_=>⟨[],[.box 3 (.dat [(.int .i64 o_.1)]),.box 3 (.dat [(.int .i64 o_.2)]),.dead]⟩) (afH R_ p_v 0 p_b0 p_b1) (Aq R_ p_v) (0,p_b0,p_b1) (fun o0=>
 .rt [] 2 (o0.1,o0.2)) fun o1=>
 .rt [] 2 (o1.1,o1.2))<|
 .iB (p_v.aF==5) (.nu p_v.aW aJ.lf<|
 .l2m [.kill 2] Tryz.f323 2 [1,1,0,1,1,1,0,1,0] 0 (fun(v3,v4,v5)=>⟨[(1,.clo 324 [.ptr 0 0,.ptr 1 0]),(27,.lf (.rows 6 (p_v.aW.map aJ.lf))),(28,.i_ (p_v.aW.length:Int)),(29,.i_ v3)],[.box 3 (.dat [(.int .i64 v4)]),.box 3 (.dat [(.int .i64 v5)]),.dead]⟩) .ret (fun o_=>⟨[],[.box 3 (.dat [(.int .i64 o_.1)]),.box 3 (.dat [(.int .i64 o_.2)]),.dead]⟩) (.exit 3) (fun o_=>⟨[],[.box 3 (.dat [(.int .i64 o_.1)]),.box 3 (.dat [(.int .i64 o_.2)]),.dead]⟩) (afI R_ p_v 0 p_b0 p_b1) (Ar R_ p_v) (0,p_b0,p_b1) (fun o2=>
 .rt [] 2 (o2.1,o2.2)) fun o3=>
 .rt [] 2 (o3.1,o3.2))<|
 .ret ⟨[.kill 2],[],[],2⟩ (p_b0,p_b1)
theorem akw(R_:RB2):akt fun p_v p_b0 p_b1=>Mo.den (Lp R_ p_v p_b0 p_b1):=fun _ _ _=>eP Tryz.func323
def Wh(R_:RB2)(p_p:ah)(p_b0:Int)(p_b1:Int):Mo (Bool×Int×Int):=
 .say [.order [(true,0),(true,1),(true,2),(true,3),(true,4),(false,5),(true,6),(false,7)] (some 7) []] ok0<|
 .cl (R_.ok1 p_p (IntKind.wrap .i64 (p_b1-p_b0))) fun r0 _=>
 .ret ⟨[.kill 2],[0],[],2⟩ (decide ((IntKind.wrap .i64 (p_b0+r0):Int)<p_b1),IntKind.wrap .i64 (p_b0+r0),p_b1)
theorem akx(R_:RB2):aku fun p_p p_b0 p_b1=>Mo.den (Wh R_ p_p p_b0 p_b1):=fun _ _ _=>eP Tryz.func324
def tK:Nat→RB2
 |0=>{ m1:=fun p_v p_most=>none,ok1:=fun _ _ _ h=>(by cases h),m2:=fun p_v p_b0 p_b1=>none,ok2:=fun _ _ _ _ h=>(by cases h),m3:=fun p_p p_b0 p_b1=>none,ok3:=fun _ _ _ _ h=>(by cases h) }
 |n_+1=>{ m1:=fun p_v p_most=>Mo.den (V9 (tK n_) p_v p_most),ok1:=akv (tK n_),m2:=fun p_v p_b0 p_b1=>Mo.den (Lp (tK n_) p_v p_b0 p_b1),ok2:=akw (tK n_),m3:=fun p_p p_b0 p_b1=>Mo.den (Wh (tK n_) p_p p_b0 p_b1),ok3:=akx (tK n_) }
def awm(p_v:ah)(p_most:Int):Option (Int):=(tK FU).m1 p_v p_most
theorem apd:acR awm:=(tK FU).ok1
def aky(p_v:ah):Mo (Int):=
 .cl (apd p_v 1025) fun r0 _=>
 .ret (aU 1) (r0)
def atz(p_v:ah):Option (Int):=Mo.den (aky p_v)
theorem ape(p_v:ah):FV (atz p_v) 203 [.dat (ah.lf1 p_v)] .i_:=dw Tryz.func203
abbrev acS(m:ah→Int→Option (Int)):Prop:=∀p_v p_most,FV (m p_v p_most) 275 [.dat (ah.lf1 p_v),.i_ p_most] .i_
abbrev akz(m:ah→Int→Int→Option (Int×Int)):Prop:=∀p_v p_b0 p_b1,FH (m p_v p_b0 p_b1) 323 [.dat (ah.lf1 p_v),.clo 325 [.ptr 0 0,.ptr 1 0]] [.box 3 (.dat [(.int .i64 p_b0)]),.box 3 (.dat [(.int .i64 p_b1)])] (fun _=>.tup []) (fun r=>[.box 3 (.dat [(.int .i64 r.1)]),.box 3 (.dat [(.int .i64 r.2)])])
abbrev akA(m:ah→Int→Int→Option (Bool×Int×Int)):Prop:=∀p_p p_b0 p_b1,FH (m p_p p_b0 p_b1) 325 [.dat (ah.lf1 p_p),.ptr 0 0,.ptr 1 0] [.box 3 (.dat [(.int .i64 p_b0)]),.box 3 (.dat [(.int .i64 p_b1)])] (fun r=>.b_ r.1) (fun r=>[.box 3 (.dat [(.int .i64 r.2.1)]),.box 3 (.dat [(.int .i64 r.2.2)])])
structure RB3 where
 m1:(p_v:ah)→(p_most:Int)→Option (Int)
 ok1:acS m1
 m2:(p_v:ah)→(p_b0:Int)→(p_b1:Int)→Option (Int×Int)
 ok2:akz m2
 m3:(p_p:ah)→(p_b0:Int)→(p_b1:Int)→Option (Bool×Int×Int)
 ok3:akA m3
def Wi(R_:RB3)(p_v:ah)(p_most:Int):Mo (Int):=
 .iB (p_most==1) (.ret (aU 1) (1))<|
 .cH [2,1] (R_.ok2 p_v 0 p_most) fun r0 _=>
 .ret (aU 1) (IntKind.wrap .i64 (1+r0.1))
theorem akB(R_:RB3):acS fun p_v p_most=>Mo.den (Wi R_ p_v p_most):=fun _ _=>dw Tryz.func275
def Au(R_:RB3)(p_v:ah):(Int×Int×Int)→Mo ((Int×Int×Int)⊕(Int×Int)⊕(Int×Int)):=fun(v0,v1,v2)=>
 .iB (decide ((v0:Int)<(p_v.aT.length:Int))) (.gx ah.aX p_v.aT v0 fun x0 _=>
 .say [.at_ 14 2,.tod 20] ok0<|
 .cH [0,1] (R_.ok3 x0 v1 v2) fun r0 _=>
 .iB (!r0.1) (.rt [] 3 (.inr (.inl (r0.2.1,r0.2.2))))<|
 .rt [1,13,14,15] 3 (.inl (IntKind.wrap .i64 (v0+1),r0.2.1,r0.2.2)))<|
 .rt [] 3 (.inr (.inr ((v1,v2))))
def afJ(R_:RB3)(p_v:ah)(v0:Int)(v1:Int)(v2:Int):Option ((Int×Int)⊕(Int×Int)):=bV (fun v_=>(Au R_ p_v v_).den) FU (v0,v1,v2)
def Aw(R_:RB3)(p_v:ah):(Int×Int×Int)→Mo ((Int×Int×Int)⊕(Int×Int)⊕(Int×Int)):=fun(v0,v1,v2)=>
 .iB (decide ((v0:Int)<(p_v.aW.length:Int))) (.gx aJ.aX p_v.aW v0 fun x0 _=>
 .say [.at_ 26 3,.tod 35] ok0<|
 .cH [0,1] (R_.ok3 x0.fValue v1 v2) fun r0 _=>
 .iB (!r0.1) (.rt [] 3 (.inr (.inl (r0.2.1,r0.2.2))))<|
 .rt [1,27,28,29] 3 (.inl (IntKind.wrap .i64 (v0+1),r0.2.1,r0.2.2)))<|
 .rt [] 3 (.inr (.inr ((v1,v2))))
def afK(R_:RB3)(p_v:ah)(v0:Int)(v1:Int)(v2:Int):Option ((Int×Int)⊕(Int×Int)):=bV (fun v_=>(Aw R_ p_v v_).den) FU (v0,v1,v2)
def Lr(R_:RB3)(p_v:ah)(p_b0:Int)(p_b1:Int):Mo (Int×Int):=
 .iB (p_v.aF==6) (.nu p_v.aT ah.lf<|
 .l2m [.kill 2] Tryz.f323 2 [1,1,0,1,0,1,0] 0 (fun(v0,v1,v2)=>⟨[(1,.clo 325 [.ptr 0 0,.ptr 1 0]),(13,.lf (.rows 5 (p_v.aT.map ah.lf))),(14,.i_ (p_v.aT.length:Int)),(15,.i_ v0)],[.box 3 (.dat [(.int .i64 v1)]),.box 3 (.dat [(.int .i64 v2)]),.dead]⟩) .ret (fun o_=>⟨[],[.box 3 (.dat [(.int .i64 o_.1)]),.box 3 (.dat [(.int .i64 o_.2)]),.dead]⟩) (.exit 1) (fun o_=>⟨[],[.box 3 (.dat [(.int .i64 o_.1)]),.box 3 (.dat [(.int .i64 o_.2)]),.dead]⟩) (afJ R_ p_v 0 p_b0 p_b1) (Au R_ p_v) (0,p_b0,p_b1) (fun o0=>
 .rt [] 2 (o0.1,o0.2)) fun o1=>
 .rt [] 2 (o1.1,o1.2))<|
 .iB (p_v.aF==5) (.nu p_v.aW aJ.lf<|
 .l2m [.kill 2] Tryz.f323 2 [1,1,0,1,1,1,0,1,0] 0 (fun(v3,v4,v5)=>⟨[(1,.clo 325 [.ptr 0 0,.ptr 1 0]),(27,.lf (.rows 6 (p_v.aW.map aJ.lf))),(28,.i_ (p_v.aW.length:Int)),(29,.i_ v3)],[.box 3 (.dat [(.int .i64 v4)]),.box 3 (.dat [(.int .i64 v5)]),.dead]⟩) .ret (fun o_=>⟨[],[.box 3 (.dat [(.int .i64 o_.1)]),.box 3 (.dat [(.int .i64 o_.2)]),.dead]⟩) (.exit 3) (fun o_=>⟨[],[.box 3 (.dat [(.int .i64 o_.1)]),.box 3 (.dat [(.int .i64 o_.2)]),.dead]⟩) (afK R_ p_v 0 p_b0 p_b1) (Aw R_ p_v) (0,p_b0,p_b1) (fun o2=>
 .rt [] 2 (o2.1,o2.2)) fun o3=>
 .rt [] 2 (o3.1,o3.2))<|
 .ret ⟨[.kill 2],[],[],2⟩ (p_b0,p_b1)
theorem akC(R_:RB3):akz fun p_v p_b0 p_b1=>Mo.den (Lr R_ p_v p_b0 p_b1):=fun _ _ _=>eP Tryz.func323
def Wj(R_:RB3)(p_p:ah)(p_b0:Int)(p_b1:Int):Mo (Bool×Int×Int):=
 .say [.order [(true,0),(true,1),(true,2),(true,3),(false,4),(true,5),(false,6)] (some 6) []] ok0<|
 .cl (R_.ok1 p_p (IntKind.wrap .i64 (p_b1-1))) fun r0 _=>
 .ret ⟨[.kill 2],[0],[],2⟩ (decide (((if r0 > p_b0 then r0 else p_b0):Int)<(IntKind.wrap .i64 (p_b1-1))),(if r0 > p_b0 then r0 else p_b0),p_b1)
theorem akD(R_:RB3):akA fun p_p p_b0 p_b1=>Mo.den (Wj R_ p_p p_b0 p_b1):=fun _ _ _=>eP Tryz.func325
def tN:Nat→RB3
 |0=>{ m1:=fun p_v p_most=>none,ok1:=fun _ _ _ h=>(by cases h),m2:=fun p_v p_b0 p_b1=>none,ok2:=fun _ _ _ _ h=>(by cases h),m3:=fun p_p p_b0 p_b1=>none,ok3:=fun _ _ _ _ h=>(by cases h) }
 |n_+1=>{ m1:=fun p_v p_most=>Mo.den (Wi (tN n_) p_v p_most),ok1:=akB (tN n_),m2:=fun p_v p_b0 p_b1=>Mo.den (Lr (tN n_) p_v p_b0 p_b1),ok2:=akC (tN n_),m3:=fun p_p p_b0 p_b1=>Mo.den (Wj (tN n_) p_p p_b0 p_b1),ok3:=akD (tN n_) }
def awn(p_v:ah)(p_most:Int):Option (Int):=(tN FU).m1 p_v p_most
theorem apf:acS awn:=(tN FU).ok1
def akE(p_v:ah):Mo (Int):=
 .cl (apf p_v 17) fun r0 _=>
 .ret (aU 1) (r0)
def atA(p_v:ah):Option (Int):=Mo.den (akE p_v)
theorem apg(p_v:ah):FV (atA p_v) 204 [.dat (ah.lf1 p_v)] .i_:=dw Tryz.func204
def pR(p_s:ByteArray):(Int)→Mo ((Int)⊕(Unit⊕Unit)):=fun(v0)=>
 .iB (decide ((v0:Int)<(p_s.size:Int))) (.sf Tryz.f327 0 [1,1,0,1,0,0,1,1,0,0,1,0] 0 10 6 [(0,.lf (.str p_s)),(3,.i_ v0),(18,.i_ (p_s.size:Int)),(19,.i_ v0)] [] 31 (kY p_s v0) fun r0=>
 .sk Tryz.f327 0 [1,1,0,1,0,0,1,1,0,0,1,0] 10 6 6 (fun r_=>⟨[(0,.lf (.str p_s)),(18,.i_ (p_s.size:Int)),(19,.i_ v0),(37,.b_ r_)],[]⟩) ⟨[(0,.lf (.str p_s)),(3,.i_ v0),(18,.i_ (p_s.size:Int)),(19,.i_ v0),(31,.b_ r0)],[]⟩ (kZ p_s r0 v0) fun r1=>
 .iB (r1) (.rt [2] 0 (.inr (.inl ())))<|
 .rt [0,18,19] 0 (.inl (IntKind.wrap .i64 (v0+1))))<|
 .rt [] 0 (.inr (.inr (())))
def Ec(p_s:ByteArray)(v0:Int):Option (Unit⊕Unit):=bV (fun v_=>(pR p_s v_).den) FU (v0)
def ZA(p_s:ByteArray):Mo (Bool):=
 .sf Tryz.f327 0 [1,0,0] 0 8 1 [(0,.lf (.str p_s))] [] 11 (kW p_s) fun r0=>
 .sb Tryz.f327 0 [1,0,0] 8 5 1 [(0,.lf (.str p_s))] [] 11 16 r0 (kX p_s r0) fun r1=>
 .iB (r1) (.ret (aU 1) (false))<|
 .l2m [] Tryz.f327 0 [1,1,0,1,0] 0 (fun(v0)=>⟨[(0,.lf (.str p_s)),(18,.i_ (p_s.size:Int)),(19,.i_ v0)],[]⟩) .ret (fun _=>⟨[(2,.b_ false)],[]⟩) (.exit 0) (fun _=>⟨[],[]⟩) (Ec p_s 0) (pR p_s) (0) (fun o0=>
 .ret (aU 1) (false)) fun o1=>
 .ret (aU 1) (true)
def Q79(p_s:ByteArray):Option (Bool):=Mo.den (ZA p_s)
theorem atB(p_s:ByteArray):FV (Q79 p_s) 327 [.lf (.str p_s)] .b_:=dw Tryz.func327
abbrev acT(m:ah→Option (Bool)):Prop:=∀p_v,FV (m p_v) 205 [.dat (ah.lf1 p_v)] .b_
abbrev akF(m:(List aJ)→Option (Bool)):Prop:=∀p_l,FV (m p_l) 277 [.lf (.rows 6 (p_l.map aJ.lf))] .b_
structure RB4 where
 m1:(p_v:ah)→Option (Bool)
 ok1:acT m1
 m2:(p_l:List aJ)→Option (Bool)
 ok2:akF m2
def ZB(R_:RB4)(p_v:ah):Mo (Bool):=
 .oV 4003 (p_v.aF==3) [1,14] 1 (p_v.aF==9)
def ZC(R_:RB4)(p_v:ah)(r0:Bool):Mo (Bool):=
 .oV 4008 (r0) [1,19] 1 (p_v.aF==10)
def QI(R_:RB4)(p_v:ah)(r0:Bool):Mo (Unit):=
 .rt [1,3] 1 ()
def QJ(R_:RB4)(p_v:ah)(r0:Bool):Mo (Bool):=
 .oV 6003 (p_v.aF==4) [1,3,27] 1 (p_v.aF==7)
def QK(R_:RB4)(p_v:ah)(r0:Bool)(r1:Bool):Mo (Bool):=
 .oV 6008 (r0) [1,3,32] 1 (p_v.aF==8)
def QL(R_:RB4)(p_v:ah)(r0:Bool)(r1:Bool):Mo (Unit):=
 .rt [1,3,4] 1 ()
def QM(R_:RB4)(p_v:ah)(r0:Bool)(r1:Bool):Mo (Bool):=
 .aV 8002 (!r1) [1,4,39] 1 (p_v.eF != 0)
def QN(R_:RB4)(p_v:ah)(r0:Bool)(r1:Bool):Mo (Bool):=
 .iG 8007 (r1) (.rt [1,48] 1 (true))<|
 .aV 8010 (!r0) [1,48] 1 (!decide ((p_v.fText:ByteArray)=(⟨#[]⟩:ByteArray)))
def QO(R_:RB4)(p_v:ah):Mo (Bool):=
 .iG 12003 (p_v.aF != 6) (.nu p_v.aT ah.lf<|
 .rt [1,57] 1 (decide ((0:Int)<(p_v.aT.length:Int))))<|
 .rt [1,57] 1 (false)
def QS(R_:RB4)(p_v:ah)(r0:Bool):Mo (Bool):=
 .iG 12009 (r0) (.rt [1,68] 1 (true))<|
 .iG 12013 (p_v.aF != 5) (.nu p_v.aW aJ.lf<|
 .rt [1,68] 1 (decide ((0:Int)<(p_v.aW.length:Int))))<|
 .rt [1,68] 1 (false)
def QT(R_:RB4)(p_v:ah):Mo (Bool):=
 .iB (p_v.aF==1) (.rt [1,70,71] 1 (p_v.aF==1))<|
 .iB (p_v.aF==2) (.rt [1,70,71] 1 (p_v.aF==2))<|
 .iB (p_v.aF==11) (.rt [1,70,71] 1 (p_v.aF==11))<|
 .rt [1,70,71] 1 (p_v.aF==3)
def QU(R_:RB4)(p_v:ah):Mo (Bool):=
 .iG 30003 (p_v.eF==0) (.ret ⟨[.kill 0],[2],[],1⟩ (true))<|
 .ret ⟨[.kill 0],[2],[],1⟩ (p_v.eF==1)
def QV(R_:RB4)(p_v:ah):Mo (Bool):=
 .iG 38004 (decide (((p_v.fText.size:Int):Int)≤4096)) (.cl (afD p_v.fText) fun r0 _=>
 .ret ⟨[.kill 0],[2],[],1⟩ (r0))<|
 .ret ⟨[.kill 0],[2],[],1⟩ (false)
def Az(R_:RB4)(p_v:ah):(Int)→Mo ((Int)⊕(Unit⊕Unit)):=fun(v0)=>
 .iB (decide ((v0:Int)<(p_v.aT.length:Int))) (.gx ah.aX p_v.aT v0 fun x0 _=>
 .cl (R_.ok1 x0) fun r0 _=>
 .iB (!r0) (.rt [2] 1 (.inr (.inl ())))<|
 .rt [117,118,119] 1 (.inl (IntKind.wrap .i64 (v0+1))))<|
 .rt [] 1 (.inr (.inr (())))
def afL(R_:RB4)(p_v:ah)(v0:Int):Option (Unit⊕Unit):=bV (fun v_=>(Az R_ p_v v_).den) FU (v0)
def afM(R_:RB4)(p_v:ah):Mo (Bool):=
 .sf Tryz.f205 0 [1,0] 0 8 1 [(1,.ptr 0 0)] [aZ p_v] 14 (ZB R_ p_v) fun r0=>
 .sb Tryz.f205 0 [1,0] 8 5 1 [(1,.ptr 0 0)] [aZ p_v] 14 19 r0 (ZC R_ p_v r0) fun r1=>
 .sk Tryz.f205 0 [1,0] 13 1 1 (fun r_=>⟨[(1,.ptr 0 0),(3,.b_ r1)],[aZ p_v]⟩) ⟨[(1,.ptr 0 0),(19,.b_ r1)],[aZ p_v]⟩ (QI R_ p_v r1) fun r2=>
 .sf Tryz.f205 0 [1,1,0] 0 8 2 [(1,.ptr 0 0),(3,.b_ r1)] [aZ p_v] 27 (QJ R_ p_v r1) fun r3=>
 .sb Tryz.f205 0 [1,1,0] 8 5 2 [(1,.ptr 0 0),(3,.b_ r1)] [aZ p_v] 27 32 r3 (QK R_ p_v r3 r1) fun r4=>
 .sk Tryz.f205 0 [1,1,0] 13 1 2 (fun r_=>⟨[(1,.ptr 0 0),(3,.b_ r1),(4,.b_ r4)],[aZ p_v]⟩) ⟨[(1,.ptr 0 0),(3,.b_ r1),(32,.b_ r4)],[aZ p_v]⟩ (QL R_ p_v r4 r1) fun r5=>
 .sk Tryz.f205 0 [1,1,1,0,0] 0 7 3 (fun r_=>⟨[(1,.ptr 0 0),(4,.b_ r4),(39,.b_ r_)],[aZ p_v]⟩) ⟨[(1,.ptr 0 0),(3,.b_ r1),(4,.b_ r4)],[aZ p_v]⟩ (QM R_ p_v r4 r1) fun r6=>
 .sk Tryz.f205 0 [1,1,1,0,0] 7 9 3 (fun r_=>⟨[(1,.ptr 0 0),(48,.b_ r_)],[aZ p_v]⟩) ⟨[(1,.ptr 0 0),(4,.b_ r4),(39,.b_ r6)],[aZ p_v]⟩ (QN R_ p_v r4 r6) fun r7=>
 .iB (r7) (.ret (aU 1) (false))<|
 .sf Tryz.f205 0 [1,1,1,1,0,0] 0 9 5 [(1,.ptr 0 0)] [aZ p_v] 57 (QO R_ p_v) fun r8=>
 .sb Tryz.f205 0 [1,1,1,1,0,0] 9 11 5 [(1,.ptr 0 0)] [aZ p_v] 57 68 r8 (QS R_ p_v r8) fun r9=>
 .iB (r9) (.ret (aU 1) (false))<|
 .jk Tryz.f205 0 [1,1,1,1,1,0,1,0,0,1] 1 (fun r_=>⟨[(1,.ptr 0 0),(70,.i_ p_v.aF),(71,.b_ r_)],[aZ p_v]⟩) ⟨[(1,.ptr 0 0),(70,.i_ p_v.aF),(71,.lf (.bool (p_v.aF==1)))],[aZ p_v]⟩ (QT R_ p_v) fun r10=>
 .iB (r10) (.ret (aU 1) (true))<|
 .iB (p_v.aF==9) (.jk Tryz.f205 0 [1,1,1,1,1,0,1,0,1,1,1,0,0] 35 (fun r_=>⟨[(2,.b_ r_)],[.dead]⟩) ⟨[(1,.ptr 0 0)],[aZ p_v]⟩ (QU R_ p_v) fun r11=>
 .ret (aU 1) (r11))<|
 .iB (p_v.aF==10) (.ret (aU 1) (decide ((0:Int)≤p_v.eF)))<|
 .iB (p_v.aF==4) (.jk Tryz.f205 0 [1,1,1,1,1,0,1,0,1,1,1,1,1,1,1,0,0] 43 (fun r_=>⟨[(2,.b_ r_)],[.dead]⟩) ⟨[(1,.ptr 0 0)],[aZ p_v]⟩ (QV R_ p_v) fun r12=>
 .ret (aU 1) (r12))<|
 .iB (p_v.aF==7) (.ret (aU 1) (decide (((p_v.fText.size:Int):Int)≤4096)))<|
 .iB (p_v.aF==8) (.ret (aU 1) ((p_v.fText.size:Int)==12))<|
 .iB (p_v.aF==6) (.nu p_v.aT ah.lf<|
 .l2m [.kill 0] Tryz.f205 0 [1,1,1,1,1,0,1,0,1,1,1,1,1,1,1,1,1,1,1,1,1,0,0,1,0] 0 (fun(v0)=>⟨[(117,.lf (.rows 5 (p_v.aT.map ah.lf))),(118,.i_ (p_v.aT.length:Int)),(119,.i_ v0)],[.dead]⟩) .ret (fun _=>⟨[(2,.b_ false)],[.dead]⟩) (.exit 1) (fun _=>⟨[],[.dead]⟩) (afL R_ p_v 0) (Az R_ p_v) (0) (fun o0=>
 .ret (aU 1) (false)) fun o1=>
 .ret (aU 1) (true))<|
 .iB (p_v.aF==5) (.cl (R_.ok2 p_v.aW) fun r13 _=>
 .ret (aU 1) (r13))<|
 .ret (aU 1) (false)
theorem aph(R_:RB4):acT fun p_v=>Mo.den (afM R_ p_v):=fun _=>dw Tryz.func205
def ZE(R_:RB4)(m1575:List (ByteArray×Bool))(p_l:List aJ)(v0:Int)(x0:aJ):Mo (Bool):=
 .cl (atB x0.fName) fun r0 _=>
 .iG 12004 (!r0) (.rt [3,5,7,8,9,22] 2 (true))<|
 .say [.row [.bool (uX m1575 x0.fName false)]] (okc (rfl:Tryz.prog=Tryz.prog) (ok1 (Gu _ _ _:oz (m1575.map mvB) x0.fName (.bool false)=(.bool (uX m1575 x0.fName false)))))<|
 .rt [3,5,7,8,9,22] 2 (uX m1575 x0.fName false)
def ZF(R_:RB4)(m1575:List (ByteArray×Bool))(p_l:List aJ)(r0:Bool)(v0:Int)(x0:aJ):Mo (Bool):=
 .iG 12010 (r0) (.rt [3,5,7,8,9,28] 2 (true))<|
 .cl (R_.ok1 x0.fValue) fun r1 _=>
 .rt [3,5,7,8,9,28] 2 (!r1)
def AA(R_:RB4)(p_l:List aJ):(Int×(List (ByteArray×Bool)))→Mo ((Int×(List (ByteArray×Bool)))⊕(Unit⊕Unit)):=fun(v0,m1575)=>
 .iB (decide ((v0:Int)<(p_l.length:Int))) (.gx aJ.aX p_l v0 fun x0 _=>
 .sf Tryz.f277 0 [1,1,0,1,0,0,1,1,0,0,1,0,0] 0 10 5 [(3,.mp 0),(5,.ptr 1 0),(7,.lf (.rows 6 (p_l.map aJ.lf))),(8,.i_ (p_l.length:Int)),(9,.i_ v0)] [.map Tryz.prog 9 4 (m1575.map mvB),.box 115 (.agg ((aJ.lf1 x0).map AV.lf))] 22 (ZE R_ m1575 p_l v0 x0) fun r0=>
 .sb Tryz.f277 0 [1,1,0,1,0,0,1,1,0,0,1,0,0] 10 6 5 [(3,.mp 0),(5,.ptr 1 0),(7,.lf (.rows 6 (p_l.map aJ.lf))),(8,.i_ (p_l.length:Int)),(9,.i_ v0)] [.map Tryz.prog 9 4 (m1575.map mvB),.box 115 (.agg ((aJ.lf1 x0).map AV.lf))] 22 28 r0 (ZF R_ m1575 p_l r0 v0 x0) fun r1=>
 .iB (r1) (.ret ⟨[.kill 0],[2],[],1⟩ (.inr (.inl ())))<|
 .say [] (ok1 (rfl:Tryz.prog=Tryz.prog))<|
 .grd (m1575.length<maxLen) fun h0=>
 .say [] (ok1 (by simpa using h0:(m1575.map mvB).length<maxLen))<|
 .rt [3,7,8,9] 1 (.inl (IntKind.wrap .i64 (v0+1),(x0.fName,true)::m1575)))<|
 .ret ⟨[.kill 0],[],[],1⟩ (.inr (.inr (())))
def afN(R_:RB4)(p_l:List aJ)(v0:Int)(m1575:List (ByteArray×Bool)):Option (Unit⊕Unit):=bV (fun v_=>(AA R_ p_l v_).den) FU (v0,m1575)
def afO(R_:RB4)(p_l:List aJ):Mo (Bool):=
 .nu p_l aJ.lf<|
 .l2m [] Tryz.f277 0 [1,1,0,1,0] 0 (fun(v0,m1575)=>⟨[(3,.mp 0),(7,.lf (.rows 6 (p_l.map aJ.lf))),(8,.i_ (p_l.length:Int)),(9,.i_ v0)],[.map Tryz.prog 9 4 (m1575.map mvB)]⟩) .ret (fun _=>⟨[(2,.b_ false)],[.dead]⟩) (.exit 0) (fun _=>⟨[],[.dead]⟩) (afN R_ p_l 0 ([]:List (ByteArray×Bool))) (AA R_ p_l) (0,([]:List (ByteArray×Bool))) (fun o0=>
 .ret (aU 1) (false)) fun o1=>
 .ret (aU 1) (true)
theorem apj(R_:RB4):akF fun p_l=>Mo.den (afO R_ p_l):=fun _=>dw Tryz.func277
def yI:Nat→RB4
 |0=>{ m1:=fun p_v=>none,ok1:=fun _ _ h=>(by cases h),m2:=fun p_l=>none,ok2:=fun _ _ h=>(by cases h) }
 |n_+1=>{ m1:=fun p_v=>Mo.den (afM (yI n_) p_v),ok1:=aph (yI n_),m2:=fun p_l=>Mo.den (afO (yI n_) p_l),ok2:=apj (yI n_) }
def Q25(p_v:ah):Option (Bool):=(yI FU).m1 p_v
theorem atC:acT Q25:=(yI FU).ok1
def akG(p_v:ah):Mo (Bool):=
 .cl (ape p_v) fun r0 _=>
 .iG 4003 (decide ((r0:Int)≤1024)) (.cl (apg p_v) fun r1 _=>
 .iG 4008 (decide ((r1:Int)≤16)) (.cl (atC p_v) fun r2 _=>
 .ret (aU 1) (r2))<|
 .ret (aU 1) (false))<|
 .ret (aU 1) (false)
def apk(p_v:ah):Option (Bool):=Mo.den (akG p_v)
theorem o9(p_v:ah):FV (apk p_v) 132 [.dat (ah.lf1 p_v)] .b_:=dw Tryz.func132
def ZG(p_v:ah):Mo (Bool):=
 .aV 4003 (p_v.aF != 6) [1,2,10] 1 (p_v.aF != 1)
def ZH(p_v:ah)(r0:Bool):Mo (Bool):=
 .aV 4008 (r0) [1,2,15] 1 (p_v.aF != 11)
def QW(p_v:ah)(r0:Bool):Mo (Bool):=
 .iG 4013 (r0) (.cl (o9 p_v) fun r1 _=>
 .ret ⟨[.kill 0],[2,19],[],1⟩ (r1))<|
 .ret ⟨[.kill 0],[2,19],[],1⟩ (false)
def akH(p_v:ah):Mo (Bool):=
 .sf Tryz.f110 0 [1,0] 0 8 1 [(1,.ptr 0 0),(2,.b_ false)] [aZ p_v] 10 (ZG p_v) fun r0=>
 .sb Tryz.f110 0 [1,0] 8 5 1 [(1,.ptr 0 0),(2,.b_ false)] [aZ p_v] 10 15 r0 (ZH p_v r0) fun r1=>
 .sk Tryz.f110 0 [1,0] 13 4 1 (fun r_=>⟨[(2,.b_ false),(19,.b_ r_)],[.dead]⟩) ⟨[(1,.ptr 0 0),(2,.b_ false),(15,.b_ r1)],[aZ p_v]⟩ (QW p_v r1) fun r2=>
 .sk Tryz.f110 0 [1,0] 17 1 1 (fun r_=>⟨[(2,.b_ r2)],[.dead]⟩) ⟨[(2,.b_ false),(19,.b_ r2)],[.dead]⟩ (dQ r2) fun r3=>
 .ret (aU 1) (r2)
def Q88(p_v:ah):Option (Bool):=Mo.den (akH p_v)
theorem atD(p_v:ah):FV (Q88 p_v) 110 [.dat (ah.lf1 p_v)] .b_:=dw Tryz.func110
def acU(p_x:Int):Mo (Bool):=
 .ret (aU 1) (p_x != p_x)
def atE(p_x:Int):Option (Bool):=Mo.den (acU p_x)
theorem afP(p_x:Int):FV (atE p_x) 329 [.i_ p_x] .b_:=dw Tryz.func329
def acV(p_x:Int)(p_y:Int):Mo (Int):=
 .cl (afP p_x) fun r0 _=>
 .cl (afP p_y) fun r1 _=>
 .iB (r0) (.iB (r1) (.ret (aU 1) (0))<|
 .ret (aU 1) ((-1)))<|
 .iB (r1) (.ret (aU 1) (1))<|
 .iB (decide ((p_x:Int)<p_y)) (.ret (aU 1) ((-1)))<|
 .iB (decide ((p_y:Int)<p_x)) (.ret (aU 1) (1))<|
 .ret (aU 1) (0)
def apl(p_x:Int)(p_y:Int):Option (Int):=Mo.den (acV p_x p_y)
theorem JQ(p_x:Int)(p_y:Int):FV (apl p_x p_y) 298 [.i_ p_x,.i_ p_y] .i_:=dw Tryz.func298
abbrev acW(m:ah→ah→Option (Int)):Prop:=∀p_a p_b,FV (m p_a p_b) 254 [.dat (ah.lf1 p_a),.dat (ah.lf1 p_b)] .i_
structure RB5 where
 m1:(p_a:ah)→(p_b:ah)→Option (Int)
 ok1:acW m1
def Ls(R_:RB5)(p_a:ah)(p_b:ah):Mo (Bool):=
 .iB (p_a.aF==3) (.rt [2,3,21,22] 2 (p_a.aF==3))<|
 .iB (p_a.aF==9) (.rt [2,3,21,22] 2 (p_a.aF==9))<|
 .rt [2,3,21,22] 2 (p_a.aF==10)
def Lu(R_:RB5)(p_a:ah)(p_b:ah):Mo (Bool):=
 .iB (p_a.aF==4) (.rt [2,3,21,31] 2 (p_a.aF==4))<|
 .iB (p_a.aF==7) (.rt [2,3,21,31] 2 (p_a.aF==7))<|
 .rt [2,3,21,31] 2 (p_a.aF==8)
def vg(R_:RB5)(p_a:ah)(p_b:ah):(Int)→Mo ((Int)⊕(Int)⊕Unit):=fun(v0)=>
 .iB (decide ((v0:Int)<(if(p_b.aT.length:Int)<(p_a.aT.length:Int) then(p_b.aT.length:Int) else(p_a.aT.length:Int)))) (.ask (mg p_a.aT v0) fun x0 h0=>
 .say [] (ok1 (iy ah.aX h0))<|
 .ask (mg p_b.aT v0) fun x1 h1=>
 .say [] (ok1 (iy ah.aX h1))<|
 .ask (R_.m1 x0 x1) fun r0 h2=>
 .say [.jf (.q 0 (.q 1 (.q 2 (.q 3 (.q 4 (.q 5 (.q 6 (.q 7 (.q 8 (.q 9 (.l 10 (.q 11 .fin)))))))))))) (some 10) [] [.row (ah.lf1 x0),.row (ah.lf1 x1),.res (.i_ r0)] [2,3,6,48,49] 2 [(2,.ptr 0 0),(3,.ptr 1 0),(6,.i_ r0),(48,.i_ (if(p_b.aT.length:Int)<(p_a.aT.length:Int) then(p_b.aT.length:Int) else(p_a.aT.length:Int))),(49,.i_ v0)] [aZ p_a,aZ p_b]] (okc (R_.ok1 _ _ _ h2) (ok1 (rf_ ⟨[(2,.ptr 0 0),(3,.ptr 1 0),(6,.i_ r0),(48,.i_ (if(p_b.aT.length:Int)<(p_a.aT.length:Int) then(p_b.aT.length:Int) else(p_a.aT.length:Int))),(49,.i_ v0)],[aZ p_a,aZ p_b]⟩)))<|
 .iB (r0 != 0) (.ret ⟨[.kill 0,.kill 1],[4],[],2⟩ (.inr (.inl (r0))))<|
 .rt [2,3,48,49] 2 (.inl (IntKind.wrap .i64 (v0+1))))<|
 .rt [2,3] 2 (.inr (.inr (())))
def Wn(R_:RB5)(p_a:ah)(p_b:ah)(v0:Int):Option ((Int)⊕Unit):=bV (fun v_=>(vg R_ p_a p_b v_).den) FU (v0)
def vk(R_:RB5)(p_a:ah)(p_b:ah):(Int)→Mo ((Int)⊕(Int)⊕Unit):=fun(v0)=>
 .iB (decide ((v0:Int)<(if(p_b.aW.length:Int)<(p_a.aW.length:Int) then(p_b.aW.length:Int) else(p_a.aW.length:Int)))) (.ask (mg p_a.aW v0) fun x0 h0=>
 .say [] (ok1 (iy aJ.aX h0))<|
 .ask (mg p_b.aW v0) fun x1 h1=>
 .say [] (ok1 (iy aJ.aX h1))<|
 .ask (atc x0.fName x1.fName) fun r0 h2=>
 .say [.jf (.q 0 (.q 1 (.q 2 (.q 3 (.q 4 (.q 5 (.q 6 (.q 7 (.q 8 (.q 9 (.q 10 (.q 11 (.l 12 (.q 13 .fin)))))))))))))) (some 12) [] [.row (aJ.lf1 x0),.row (aJ.lf1 x1),.res (.i_ r0)] [2,3,7,8,82,83] 2 [(2,.ptr 0 0),(3,.ptr 1 0),(7,.i_ v0),(8,.i_ r0),(82,.i_ (if(p_b.aW.length:Int)<(p_a.aW.length:Int) then(p_b.aW.length:Int) else(p_a.aW.length:Int))),(83,.i_ v0)] [aZ p_a,aZ p_b]] (okc (afE _ _ _ h2) (ok1 (rf_ ⟨[(2,.ptr 0 0),(3,.ptr 1 0),(7,.i_ v0),(8,.i_ r0),(82,.i_ (if(p_b.aW.length:Int)<(p_a.aW.length:Int) then(p_b.aW.length:Int) else(p_a.aW.length:Int))),(83,.i_ v0)],[aZ p_a,aZ p_b]⟩)))<|
 .iB (r0 != 0) (.ret ⟨[.kill 0,.kill 1],[4],[],2⟩ (.inr (.inl (r0))))<|
 .ask (mg p_a.aW v0) fun x2 h3=>
 .say [] (ok1 (iy aJ.aX h3))<|
 .ask (mg p_b.aW v0) fun x3 h4=>
 .say [] (ok1 (iy aJ.aX h4))<|
 .ask (R_.m1 x2.fValue x3.fValue) fun r1 h5=>
 .say [.jf (.q 0 (.q 1 (.q 2 (.q 3 (.q 4 (.q 5 (.q 6 (.q 7 (.q 8 (.q 9 (.q 10 (.q 11 (.l 12 (.q 13 .fin)))))))))))))) (some 12) [] [.row (aJ.lf1 x2),.row (aJ.lf1 x3),.res (.i_ r1)] [2,3,9,82,83] 2 [(2,.ptr 0 0),(3,.ptr 1 0),(9,.i_ r1),(82,.i_ (if(p_b.aW.length:Int)<(p_a.aW.length:Int) then(p_b.aW.length:Int) else(p_a.aW.length:Int))),(83,.i_ v0)] [aZ p_a,aZ p_b]] (okc (R_.ok1 _ _ _ h5) (ok1 (rf_ ⟨[(2,.ptr 0 0),(3,.ptr 1 0),(9,.i_ r1),(82,.i_ (if(p_b.aW.length:Int)<(p_a.aW.length:Int) then(p_b.aW.length:Int) else(p_a.aW.length:Int))),(83,.i_ v0)],[aZ p_a,aZ p_b]⟩)))<|
 .iB (r1 != 0) (.ret ⟨[.kill 0,.kill 1],[4],[],2⟩ (.inr (.inl (r1))))<|
 .rt [2,3,82,83] 2 (.inl (IntKind.wrap .i64 (v0+1))))<|
 .rt [2,3] 2 (.inr (.inr (())))
def Wp(R_:RB5)(p_a:ah)(p_b:ah)(v0:Int):Option ((Int)⊕Unit):=bV (fun v_=>(vk R_ p_a p_b v_).den) FU (v0)
def LC(R_:RB5)(p_a:ah)(p_b:ah):Mo (Int):=
 .iB (p_a.aF != p_b.aF) (.cl (JQ p_a.aF p_b.aF) fun r0 _=>
 .ret (aU 1) (r0))<|
 .jk Tryz.f254 0 [1,1,0,1,0,0,1] 1 (fun r_=>⟨[(2,.ptr 0 0),(3,.ptr 1 0),(21,.i_ p_a.aF),(22,.b_ r_)],[aZ p_a,aZ p_b]⟩) ⟨[(2,.ptr 0 0),(3,.ptr 1 0),(21,.i_ p_a.aF),(22,.lf (.bool (p_a.aF==3)))],[aZ p_a,aZ p_b]⟩ (Ls R_ p_a p_b) fun r1=>
 .iB (r1) (.cl (JQ p_a.eF p_b.eF) fun r2 _=>
 .ret (aU 1) (r2))<|
 .jk Tryz.f254 0 [1,1,0,1,0,1,1,0,1] 1 (fun r_=>⟨[(2,.ptr 0 0),(3,.ptr 1 0),(21,.i_ p_a.aF),(31,.b_ r_)],[aZ p_a,aZ p_b]⟩) ⟨[(2,.ptr 0 0),(3,.ptr 1 0),(21,.i_ p_a.aF),(31,.lf (.bool (p_a.aF==4)))],[aZ p_a,aZ p_b]⟩ (Lu R_ p_a p_b) fun r3=>
 .iB (r3) (.cl (afE p_a.fText p_b.fText) fun r4 _=>
 .ret (aU 1) (r4))<|
 .iB (p_a.aF==6) (.nu p_a.aT ah.lf<|
 .nu p_b.aT ah.lf<|
 .l2m [] Tryz.f254 0 [1,1,0,1,0,1,1,1,1,1,0,0,1,0] 0 (fun(v0)=>⟨[(2,.ptr 0 0),(3,.ptr 1 0),(48,.i_ (if(p_b.aT.length:Int)<(p_a.aT.length:Int) then(p_b.aT.length:Int) else(p_a.aT.length:Int))),(49,.i_ v0)],[aZ p_a,aZ p_b]⟩) .ret (fun o_=>⟨[(4,.i_ o_)],[.dead,.dead]⟩) (.exit 1) (fun _=>⟨[(2,.ptr 0 0),(3,.ptr 1 0)],[aZ p_a,aZ p_b]⟩) (Wn R_ p_a p_b 0) (vg R_ p_a p_b) (0) (fun o0=>
 .ret (aU 1) (o0)) fun o1=>
 .nu p_a.aT ah.lf<|
 .nu p_b.aT ah.lf<|
 .cl (JQ (p_a.aT.length:Int) (p_b.aT.length:Int)) fun r5 _=>
 .ret (aU 1) (r5))<|
 .iB (p_a.aF==5) (.nu p_a.aW aJ.lf<|
 .nu p_b.aW aJ.lf<|
 .l2m [] Tryz.f254 0 [1,1,0,1,0,1,1,1,1,1,1,1,0,0,1,0] 0 (fun(v1)=>⟨[(2,.ptr 0 0),(3,.ptr 1 0),(82,.i_ (if(p_b.aW.length:Int)<(p_a.aW.length:Int) then(p_b.aW.length:Int) else(p_a.aW.length:Int))),(83,.i_ v1)],[aZ p_a,aZ p_b]⟩) .ret (fun o_=>⟨[(4,.i_ o_)],[.dead,.dead]⟩) (.exit 3) (fun _=>⟨[(2,.ptr 0 0),(3,.ptr 1 0)],[aZ p_a,aZ p_b]⟩) (Wp R_ p_a p_b 0) (vk R_ p_a p_b) (0) (fun o2=>
 .ret (aU 1) (o2)) fun o3=>
 .nu p_a.aW aJ.lf<|
 .nu p_b.aW aJ.lf<|
 .cl (JQ (p_a.aW.length:Int) (p_b.aW.length:Int)) fun r6 _=>
 .ret (aU 1) (r6))<|
 .ret (aU 1) (0)
theorem apm(R_:RB5):acW fun p_a p_b=>Mo.den (LC R_ p_a p_b):=fun _ _=>dw Tryz.func254
def lU:Nat→RB5
 |0=>{ m1:=fun p_a p_b=>none,ok1:=fun _ _ _ h=>(by cases h) }
 |n_+1=>{ m1:=fun p_a p_b=>Mo.den (LC (lU n_) p_a p_b),ok1:=apm (lU n_) }
def Q37(p_a:ah)(p_b:ah):Option (Int):=(lU FU).m1 p_a p_b
theorem atF:acW Q37:=(lU FU).ok1
def acX(p_a:ah)(p_b:ah):Mo (Bool):=
 .cl (atF p_a p_b) fun r0 _=>
 .ret (aU 1) (r0==0)
def apn(p_a:ah)(p_b:ah):Option (Bool):=Mo.den (acX p_a p_b)
theorem apo(p_a:ah)(p_b:ah):FV (apn p_a p_b) 178 [.dat (ah.lf1 p_a),.dat (ah.lf1 p_b)] .b_:=dw Tryz.func178
def acY(p_n:Int):Mo (Int):=
 .say [] (okc (by decide:(0:Int)≤1) (ok1 (by decide:(0:Int)≤63)))<|
 .ret (aU 1) (eU .xor .u64 (F7 .u64 (IntKind.wrap .u64 p_n) 1) (IntKind.wrap .u64 (yh .i64 p_n 63)))
def ah0(p_n:Int):Option (Int):=Mo.den (acY p_n)
theorem Wq(p_n:Int):FV (ah0 p_n) 202 [.i_ p_n] (fun r=>.lf (.int .u64 r)):=dw Tryz.func202
def rQ :(Int×Int)→Mo ((Int×Int)⊕(Int)):=fun(v0,v1)=>
 .iB (decide ((128:Int)≤v1)) (.say [] (ok1 (by decide:(0:Int)≤7))<|
 .rt [3,4] 0 (.inl (IntKind.wrap .i64 (v0+1),yh .u64 v1 7)))<|
 .rt [3] 0 (.inr (v0))
def akI(v0:Int)(v1:Int):Option (Int):=bV (fun v_=>(rQ  v_).den) FU (v0,v1)
def akJ(p_n:Int):Mo (Int):=
 .cl (Wq p_n) fun r0 _=>
 .l1m [] Tryz.f300 0 [1,1,0,1,0] 0 (.exit 0) (fun(v0,v1)=>⟨[(3,.i_ v0),(4,.lf (.int .u64 v1))],[]⟩) (fun r_=>⟨[(3,.i_ r_)],[]⟩) (akI 1 r0) (rQ ) (1,r0) fun r1=>
 .ret (aU 1) (r1)
def Q67(p_n:Int):Option (Int):=Mo.den (akJ p_n)
theorem LD(p_n:Int):FV (Q67 p_n) 300 [.i_ p_n] .i_:=dw Tryz.func300
end
end Go.Proofs.YtflpefkohpjjpaaGreatDoor
set_option linter.unusedSimpArgs false
set_option linter.unusedVariables false
namespace Go.Proofs.YtflpefkohpjjpaaGreatDoor
open Go.RowKit
set_option maxRecDepth 20000
set_option maxHeartbeats 4000000
noncomputable section
abbrev acZ(m:ah→Option (Int)):Prop:=∀p_v,FV (m p_v) 255 [.dat (ah.lf1 p_v)] .i_
structure RB6 where
 m1:(p_v:ah)→Option (Int)
 ok1:acZ m1
def LG(R_:RB6)(p_v:ah):Mo (Bool):=
 .iB (p_v.aF==3) (.rt [1,3,9,10] 1 (p_v.aF==3))<|
 .rt [1,3,9,10] 1 (p_v.aF==10)
def LH(R_:RB6)(p_v:ah):Mo (Bool):=
 .iB (p_v.aF==4) (.rt [1,3,9,22] 1 (p_v.aF==4))<|
 .rt [1,3,9,22] 1 (p_v.aF==7)
def vw(R_:RB6)(p_v:ah):(Int×Int)→Mo ((Int×Int)⊕(Int)):=fun(v0,v1)=>
 .iB (decide ((v1:Int)<(p_v.aT.length:Int))) (.gx ah.aX p_v.aT v1 fun x0 _=>
 .cl (R_.ok1 x0) fun r0 _=>
 .rt [3,51,52,53] 1 (.inl (IntKind.wrap .i64 (v0+r0),IntKind.wrap .i64 (v1+1))))<|
 .rt [3] 1 (.inr (v0))
def afQ(R_:RB6)(p_v:ah)(v0:Int)(v1:Int):Option (Int):=bV (fun v_=>(vw R_ p_v v_).den) FU (v0,v1)
def vC(R_:RB6)(p_v:ah):(Int×Int)→Mo ((Int×Int)⊕(Int)):=fun(v0,v1)=>
 .iB (decide ((v1:Int)<(p_v.aW.length:Int))) (.gx aJ.aX p_v.aW v1 fun x0 _=>
 .say [.order [(true,0),(true,1),(true,2),(true,3),(true,5),(true,6),(true,7),(true,9),(true,10),(false,4),(true,8),(false,11),(true,12),(true,13),(true,14)] none []] ok0<|
 .cl (LD (x0.fName.size:Int)) fun r0 _=>
 .cl (R_.ok1 x0.fValue) fun r1 _=>
 .rt [3,71,72,73] 1 (.inl (IntKind.wrap .i64 (v0+(IntKind.wrap .i64 ((IntKind.wrap .i64 (r0+(x0.fName.size:Int)))+r1))),IntKind.wrap .i64 (v1+1))))<|
 .rt [3] 1 (.inr (v0))
def afR(R_:RB6)(p_v:ah)(v0:Int)(v1:Int):Option (Int):=bV (fun v_=>(vC R_ p_v v_).den) FU (v0,v1)
def GX(R_:RB6)(p_v:ah):Mo (Int):=
 .jk Tryz.f255 0 [1,1,0,1,0,0,1] 1 (fun r_=>⟨[(1,.ptr 0 0),(3,.i_ 1),(9,.i_ p_v.aF),(10,.b_ r_)],[aZ p_v]⟩) ⟨[(1,.ptr 0 0),(3,.i_ 1),(9,.i_ p_v.aF),(10,.lf (.bool (p_v.aF==3)))],[aZ p_v]⟩ (LG R_ p_v) fun r0=>
 .iB (r0) (.cl (LD p_v.eF) fun r1 _=>
 .ret ⟨[.kill 0],[3],[],1⟩ (IntKind.wrap .i64 (1+r1)))<|
 .iB (p_v.aF==9) (.ret ⟨[.kill 0],[3],[],1⟩ (IntKind.wrap .i64 (1+1)))<|
 .jk Tryz.f255 0 [1,1,0,1,0,1,1,1,1,0,1] 1 (fun r_=>⟨[(1,.ptr 0 0),(3,.i_ 1),(9,.i_ p_v.aF),(22,.b_ r_)],[aZ p_v]⟩) ⟨[(1,.ptr 0 0),(3,.i_ 1),(9,.i_ p_v.aF),(22,.lf (.bool (p_v.aF==4)))],[aZ p_v]⟩ (LH R_ p_v) fun r2=>
 .iB (r2) (.say [.order [(true,0),(true,1),(true,2),(true,3),(true,5),(true,6),(true,7),(false,4),(true,8),(true,9),(true,10)] none []] ok0<|
 .cl (LD (p_v.fText.size:Int)) fun r3 _=>
 .ret ⟨[.kill 0],[3],[],1⟩ (IntKind.wrap .i64 (1+(IntKind.wrap .i64 (r3+(p_v.fText.size:Int))))))<|
 .iB (p_v.aF==8) (.ret ⟨[.kill 0],[3],[],1⟩ (IntKind.wrap .i64 (1+(p_v.fText.size:Int))))<|
 .iB (p_v.aF==6) (.nu p_v.aT ah.lf<|
 .ask (Q67 (p_v.aT.length:Int)) fun r4 h0=>
 .say [.res (.i_ r4),.num p_v.aT.length] (okc (LD _ _ h0) (ok1 (ln_ p_v.aT ah.lf)))<|
 .l1m [.kill 0] Tryz.f255 0 [1,1,0,1,0,1,1,1,1,1,1,1,1,1,0,1,1,0] 0 (.exit 1) (fun(v0,v1)=>⟨[(3,.i_ v0),(51,.lf (.rows 5 (p_v.aT.map ah.lf))),(52,.i_ (p_v.aT.length:Int)),(53,.i_ v1)],[.dead]⟩) (fun r_=>⟨[(3,.i_ r_)],[.dead]⟩) (afQ R_ p_v (IntKind.wrap .i64 (1+r4)) 0) (vw R_ p_v) ((IntKind.wrap .i64 (1+r4)),0) fun r5=>
 .rt [3] 1 (r5))<|
 .iB (p_v.aF==5) (.nu p_v.aW aJ.lf<|
 .ask (Q67 (p_v.aW.length:Int)) fun r6 h1=>
 .say [.res (.i_ r6),.num p_v.aW.length] (okc (LD _ _ h1) (ok1 (ln_ p_v.aW aJ.lf)))<|
 .l1m [.kill 0] Tryz.f255 0 [1,1,0,1,0,1,1,1,1,1,1,1,1,1,1,1,0,1,1,0] 0 (.exit 3) (fun(v2,v3)=>⟨[(3,.i_ v2),(71,.lf (.rows 6 (p_v.aW.map aJ.lf))),(72,.i_ (p_v.aW.length:Int)),(73,.i_ v3)],[.dead]⟩) (fun r_=>⟨[(3,.i_ r_)],[.dead]⟩) (afR R_ p_v (IntKind.wrap .i64 (1+r6)) 0) (vC R_ p_v) ((IntKind.wrap .i64 (1+r6)),0) fun r7=>
 .rt [3] 1 (r7))<|
 .ret ⟨[.kill 0],[3],[],1⟩ (1)
def Ws(R_:RB6)(p_v:ah):Option (Int):=Mo.den (GX R_ p_v)
def ZI(R_:RB6)(p_v:ah):Mo (Int):=
 .jp Tryz.f255 0 [1,1,0,1] 6 [1,3,9] 1 (.normal) (fun r_=>⟨[(3,.i_ r_)],[.dead]⟩) ⟨[(1,.ptr 0 0),(3,.i_ 1),(9,.i_ p_v.aF)],[aZ p_v]⟩ (Ws R_ p_v) (jW (by kernel_rfl)) fun r0 _=>
 .ret (aU 1) (r0)
theorem apq(R_:RB6):acZ fun p_v=>Mo.den (ZI R_ p_v):=fun _=>dw Tryz.func255
def qV:Nat→RB6
 |0=>{ m1:=fun p_v=>none,ok1:=fun _ _ h=>(by cases h) }
 |n_+1=>{ m1:=fun p_v=>Mo.den (ZI (qV n_) p_v),ok1:=apq (qV n_) }
def Q34(p_v:ah):Option (Int):=(qV FU).m1 p_v
theorem atG:acZ Q34:=(qV FU).ok1
def ac0(p_v:ah):Mo (Int×Int):=
 .cl (o9 p_v) fun r0 _=>
 .iB (!r0) (.ret (aU 2) (0,8))<|
 .cl (atG p_v) fun r1 _=>
 .ret (aU 2) (r1,0)
def akK(p_v:ah):Option (Int×Int):=Mo.den (ac0 p_v)
theorem apr(p_v:ah):FV (akK p_v) 179 [.dat (ah.lf1 p_v)] (fun r=>.tup [.i_ r.1,.i_ r.2]):=dw Tryz.func179
def LJ(p_doc:ah)(p_key:ah):Mo (Bool):=
 .iG 4003 (p_doc.aF != 5) (.rt [2,3,14] 2 (true))<|
 .cl (o9 p_doc) fun r0 _=>
 .rt [2,3,14] 2 (!r0)
def LK(p_doc:ah)(p_key:ah)(r0:Bool):Mo (Bool):=
 .iG 4008 (r0) (.rt [2,3,20] 2 (true))<|
 .nu p_doc.aW aJ.lf<|
 .rt [2,3,20] 2 ((p_doc.aW.length:Int)==0)
def GY(p_doc:ah)(p_key:ah):Mo (Bool):=
 .ask (mg p_doc.aW 0) fun x0 h0=>
 .say [] (ok1 (iy aJ.aX h0))<|
 .ite (!decide ((x0.fName:ByteArray)=(⟨#[95,105,100]⟩:ByteArray))) (fun c0=>
 .say [.jf (.q 0 (.q 1 (.q 2 (.q 3 (.q 4 (.q 5 (.q 6 (.q 7 (.q 8 (.q 9 (.q 10 (.q 11 (.q 12 (.l 13 (.q 14 (.q 15 .fin)))))))))))))))) (some 13) [] [.row (aJ.lf1 x0),.gd 8006 true] [2,36] 2 [(2,.ptr 0 0),(36,.b_ true)] [aZ p_doc,aZ p_key]] (okc c0 (ok1 (rf_ ⟨[(2,.ptr 0 0),(36,.b_ true)],[aZ p_doc,aZ p_key]⟩)))<|
 .ret ⟨[.kill 1],[2,36],[],2⟩ (true)) fun c0=>
 .say [] (ok1 c0)<|
 .ask (mg p_doc.aW 0) fun x1 h1=>
 .say [] (ok1 (iy aJ.aX h1))<|
 .ask (apn x1.fValue p_key) fun r0 h2=>
 .say [.jf (.q 0 (.q 1 (.q 2 (.q 3 (.q 4 (.q 5 (.q 6 (.q 7 (.q 8 (.q 9 (.q 10 (.q 11 (.q 12 (.l 13 (.q 14 (.q 15 .fin)))))))))))))))) (some 13) [] [.row (aJ.lf1 x0),.gd 8006 false,.row (aJ.lf1 x1),.res (.b_ r0)] [2,36] 2 [(2,.ptr 0 0),(36,.lf (.bool (!r0)))] [aZ p_doc,aZ p_key]] (okc (apo _ _ _ h2) (ok1 (rf_ ⟨[(2,.ptr 0 0),(36,.lf (.bool (!r0)))],[aZ p_doc,aZ p_key]⟩)))<|
 .ret ⟨[.kill 1],[2,36],[],2⟩ (!r0)
def akL(p_doc:ah)(p_key:ah):Mo (Int):=
 .sf Tryz.f111 0 [1,0,0] 0 8 1 [(2,.ptr 0 0),(3,.ptr 1 0)] [aZ p_doc,aZ p_key] 14 (LJ p_doc p_key) fun r0=>
 .sb Tryz.f111 0 [1,0,0] 8 6 1 [(2,.ptr 0 0),(3,.ptr 1 0)] [aZ p_doc,aZ p_key] 14 20 r0 (LK p_doc p_key r0) fun r1=>
 .iB (r1) (.ret (aU 1) (8))<|
 .jk Tryz.f111 0 [1,1,0,0] 13 (fun r_=>⟨[(2,.ptr 0 0),(36,.b_ r_)],[aZ p_doc,.dead]⟩) ⟨[(2,.ptr 0 0),(3,.ptr 1 0)],[aZ p_doc,aZ p_key]⟩ (GY p_doc p_key) fun r2=>
 .iB (r2) (.ret (aU 1) (8))<|
 .cl (apr p_doc) fun r3 _=>
 .iB (r3.2 != 0) (.ret (aU 1) (r3.2))<|
 .iB (decide ((16384:Int)<r3.1)) (.ret (aU 1) (2))<|
 .ret (aU 1) (0)
def Q81(p_doc:ah)(p_key:ah):Option (Int):=Mo.den (akL p_doc p_key)
theorem akM(p_doc:ah)(p_key:ah):FV (Q81 p_doc p_key) 111 [.dat (ah.lf1 p_doc),.dat (ah.lf1 p_key)] .i_:=dw Tryz.func111
def QX(p_w:aG):Mo ((Int)⊕Unit):=
 .iB (p_w.aF==2) (.cl (akM p_w.aW p_w.fZ) fun r0 _=>
 .iB (r0 != 0) (.ret ⟨[.kill 0],[2],[],1⟩ (.inl (r0)))<|
 .rt [1] 1 (.inr (())))<|
 .rt [1] 1 (.inr (()))
def ac1(p_w:aG):Mo (Int):=
 .cl (atD p_w.fZ) fun r0 _=>
 .iB (!r0) (.ret (aU 1) (8))<|
 .j2 [] Tryz.f60 0 [1,1,0,1] 1 .ret (fun o_=>⟨[(2,.i_ o_)],[.dead]⟩) .normal (fun _=>⟨[(1,.ptr 0 0)],[dP p_w]⟩) ⟨[(1,.ptr 0 0),(10,.lf (.bool (p_w.aF==2)))],[dP p_w]⟩ (QX p_w) (fun o0=>
 .ret (aU 1) (o0)) fun o1=>
 .cl (Eb p_w.dG) fun r1 _=>
 .iB (r1) (.ret (aU 1) (0))<|
 .cl (akM p_w.dG p_w.fZ) fun r2 _=>
 .ret (aU 1) (r2)
def atH(p_w:aG):Option (Int):=Mo.den (ac1 p_w)
theorem aps(p_w:aG):FV (atH p_w) 60 [.dat (aG.lf1 p_w)] .i_:=dw Tryz.func60
def ZJ(p_s:ByteArray):Mo (Bool):=
 .oV 4002 (decide ((p_s:ByteArray)=(⟨#[]⟩:ByteArray))) [0,10] 0 (decide ((32:Int)<(p_s.size:Int)))
def ZK(p_s:ByteArray)(r0:Bool):Mo (Bool):=
 .iG 4007 (r0) (.rt [0,15] 0 (true))<|
 .ask (jY p_s 0) fun b0 h0=>
 .say [.byt b0] (ok1 (eY h0))<|
 .rt [0,15] 0 ((b0.toNat:Int)==36)
def QY(p_s:ByteArray)(v0:Int):Mo (Bool):=
 .ask (jY p_s v0) fun b0 h0=>
 .say [.byt b0] (ok1 (eY h0))<|
 .iG 14004 (decide (((b0.toNat:Int):Int)<33)) (.rt [0,3,17,18,30] 0 (true))<|
 .ask (jY p_s v0) fun b1 h1=>
 .say [.byt b1] (ok1 (eY h1))<|
 .rt [0,3,17,18,30] 0 (decide ((126:Int)<(b1.toNat:Int)))
def QZ(p_s:ByteArray)(r0:Bool)(v0:Int):Mo (Bool):=
 .iG 14010 (r0) (.rt [0,17,18,36] 0 (true))<|
 .ask (jY p_s v0) fun b0 h0=>
 .say [.byt b0] (ok1 (eY h0))<|
 .rt [0,17,18,36] 0 ((b0.toNat:Int)==46)
def Rf(p_s:ByteArray):(Int)→Mo ((Int)⊕(Unit⊕Unit)):=fun(v0)=>
 .iB (decide ((v0:Int)<(p_s.size:Int))) (.sf Tryz.f113 0 [1,1,0,1,0,0,1,1,0,0,1,0] 0 10 6 [(0,.lf (.str p_s)),(3,.i_ v0),(17,.i_ (p_s.size:Int)),(18,.i_ v0)] [] 30 (QY p_s v0) fun r0=>
 .sk Tryz.f113 0 [1,1,0,1,0,0,1,1,0,0,1,0] 10 6 6 (fun r_=>⟨[(0,.lf (.str p_s)),(17,.i_ (p_s.size:Int)),(18,.i_ v0),(36,.b_ r_)],[]⟩) ⟨[(0,.lf (.str p_s)),(3,.i_ v0),(17,.i_ (p_s.size:Int)),(18,.i_ v0),(30,.b_ r0)],[]⟩ (QZ p_s r0 v0) fun r1=>
 .iB (r1) (.rt [2] 0 (.inr (.inl ())))<|
 .rt [0,17,18] 0 (.inl (IntKind.wrap .i64 (v0+1))))<|
 .rt [] 0 (.inr (.inr (())))
def ar4(p_s:ByteArray):Mo (Bool):=
 .sf Tryz.f113 0 [1,0,0] 0 7 1 [(0,.lf (.str p_s))] [] 10 (ZJ p_s) fun r0=>
 .sb Tryz.f113 0 [1,0,0] 7 5 1 [(0,.lf (.str p_s))] [] 10 15 r0 (ZK p_s r0) fun r1=>
 .iB (r1) (.ret (aU 1) (false))<|
 .l2 Tryz.f113 0 [1,1,0,1,0] 0 (fun(v0)=>⟨[(0,.lf (.str p_s)),(17,.i_ (p_s.size:Int)),(18,.i_ v0)],[]⟩) .ret (fun _=>⟨[(2,.b_ false)],[]⟩) (.exit 0) (fun _=>⟨[],[]⟩) (Rf p_s) (0) (fun o0=>
 .ret (aU 1) (false)) fun o1=>
 .ret (aU 1) (true)
def Q84(p_s:ByteArray):Option (Bool):=Mo.den (ar4 p_s)
theorem atI(p_s:ByteArray):FV (Q84 p_s) 113 [.lf (.str p_s)] .b_:=dw Tryz.func113
def wV(p_s:ByteArray):(Int)→Mo ((Int)⊕(Unit⊕Unit)):=fun(v0)=>
 .iB (decide ((v0:Int)<(p_s.size:Int))) (.sf Tryz.f184 0 [1,1,0,1,0,0,1,1,0,0,1,0] 0 10 6 [(0,.lf (.str p_s)),(3,.i_ v0),(18,.i_ (p_s.size:Int)),(19,.i_ v0)] [] 31 (kY p_s v0) fun r0=>
 .sk Tryz.f184 0 [1,1,0,1,0,0,1,1,0,0,1,0] 10 6 6 (fun r_=>⟨[(0,.lf (.str p_s)),(18,.i_ (p_s.size:Int)),(19,.i_ v0),(37,.b_ r_)],[]⟩) ⟨[(0,.lf (.str p_s)),(3,.i_ v0),(18,.i_ (p_s.size:Int)),(19,.i_ v0),(31,.b_ r0)],[]⟩ (kZ p_s r0 v0) fun r1=>
 .iB (r1) (.rt [2] 0 (.inr (.inl ())))<|
 .rt [0,18,19] 0 (.inl (IntKind.wrap .i64 (v0+1))))<|
 .rt [] 0 (.inr (.inr (())))
def ZL(p_s:ByteArray)(v0:Int):Option (Unit⊕Unit):=bV (fun v_=>(wV p_s v_).den) FU (v0)
def akN(p_s:ByteArray):Mo (Bool):=
 .sf Tryz.f184 0 [1,0,0] 0 8 1 [(0,.lf (.str p_s))] [] 11 (kW p_s) fun r0=>
 .sb Tryz.f184 0 [1,0,0] 8 5 1 [(0,.lf (.str p_s))] [] 11 16 r0 (kX p_s r0) fun r1=>
 .iB (r1) (.ret (aU 1) (true))<|
 .l2m [] Tryz.f184 0 [1,1,0,1,0] 0 (fun(v0)=>⟨[(0,.lf (.str p_s)),(18,.i_ (p_s.size:Int)),(19,.i_ v0)],[]⟩) .ret (fun _=>⟨[(2,.b_ true)],[]⟩) (.exit 0) (fun _=>⟨[],[]⟩) (ZL p_s 0) (wV p_s) (0) (fun o0=>
 .ret (aU 1) (true)) fun o1=>
 .ret (aU 1) (false)
def atJ(p_s:ByteArray):Option (Bool):=Mo.den (akN p_s)
theorem apt(p_s:ByteArray):FV (atJ p_s) 184 [.lf (.str p_s)] .b_:=dw Tryz.func184
def Ed(p_s:List ByteArray):(Int)→Mo ((Int)⊕(Int)⊕Unit):=fun(v0)=>
 .iB (decide ((v0:Int)<(p_s.length:Int))) (.gx lS_ p_s v0 fun x0 _=>
 .cl (apt x0) fun r0 _=>
 .iB (r0) (.rt [4] 0 (.inr (.inl (v0))))<|
 .rt [0,1,7,8] 0 (.inl (IntKind.wrap .i64 (v0+1))))<|
 .rt [] 0 (.inr (.inr (())))
def akO(p_s:List ByteArray)(v0:Int):Option ((Int)⊕Unit):=bV (fun v_=>(Ed p_s v_).den) FU (v0)
def ar5(p_s:List ByteArray):Mo (Int):=
 .nu p_s lfS<|
 .l2m [] Tryz.f257 0 [1,0,1,0] 0 (fun(v0)=>⟨[(0,.lf (.rows 1 (p_s.map lfS))),(1,.raw (.func (.func 184) #[] #[])),(7,.i_ (p_s.length:Int)),(8,.i_ v0)],[]⟩) .ret (fun o_=>⟨[(4,.i_ o_)],[]⟩) (.exit 0) (fun _=>⟨[],[]⟩) (akO p_s 0) (Ed p_s) (0) (fun o0=>
 .rt [0] 0 (o0)) fun o1=>
 .rt [0] 0 ((-1))
def Q96(p_s:List ByteArray):Option (Int):=Mo.den (ar5 p_s)
theorem atK(p_s:List ByteArray):FH (Q96 p_s) 257 [.lf (.rows 1 (p_s.map lfS)),.raw (.func (.func 184) #[] #[])] [] .i_ (fun _=>[]):=eP Tryz.func257
def akP(p_s:List ByteArray):Mo (Bool):=
 .cH [] (atK p_s) fun r0 _=>
 .rt [0] 0 (decide ((0:Int)≤r0))
def atL(p_s:List ByteArray):Option (Bool):=Mo.den (akP p_s)
theorem apu(p_s:List ByteArray):FH (atL p_s) 183 [.lf (.rows 1 (p_s.map lfS)),.raw (.func (.func 184) #[] #[])] [] .b_ (fun _=>[]):=eP Tryz.func183
def Rh(p_p:List ByteArray):Mo (Bool):=
 .nu p_p lfS<|
 .iG 4003 (decide ((1:Int)≤(p_p.length:Int))) (.nu p_p lfS<|
 .rt [0,2,10] 0 (decide (((p_p.length:Int):Int)≤16)))<|
 .rt [0,2,10] 0 (false)
def Ri(p_p:List ByteArray)(r0:Bool):Mo (Bool):=
 .iG 4008 (r0) (.cH [] (apu p_p) fun r1 _=>
 .rt [2,15] 0 (!r1))<|
 .rt [2,15] 0 (false)
def wW(r0:Bool):Mo (Unit):=
 .rt [2] 0 ()
def akQ(p_p:List ByteArray):Mo (Bool):=
 .sf Tryz.f116 0 [1,0] 0 8 1 [(0,.lf (.rows 1 (p_p.map lfS))),(2,.b_ false)] [] 10 (Rh p_p) fun r0=>
 .sk Tryz.f116 0 [1,0] 8 5 1 (fun r_=>⟨[(2,.b_ false),(15,.b_ r_)],[]⟩) ⟨[(0,.lf (.rows 1 (p_p.map lfS))),(2,.b_ false),(10,.b_ r0)],[]⟩ (Ri p_p r0) fun r1=>
 .sk Tryz.f116 0 [1,0] 13 1 1 (fun r_=>⟨[(2,.b_ r1)],[]⟩) ⟨[(2,.b_ false),(15,.b_ r1)],[]⟩ (wW r1) fun r2=>
 .ret (aU 1) (r1)
def apv(p_p:List ByteArray):Option (Bool):=Mo.den (akQ p_p)
theorem Ee(p_p:List ByteArray):FV (apv p_p) 116 [.lf (.rows 1 (p_p.map lfS))] .b_:=dw Tryz.func116
def yJ(p_s1:List ByteArray)(p_s2:List ByteArray):(Int)→Mo ((Int)⊕(Unit⊕Unit)):=fun(v0)=>
 .iB (decide ((v0:Int)<(p_s1.length:Int))) (.say [.order [(true,0),(true,1),(true,2),(true,3),(true,4),(true,5),(true,6),(true,7),(true,8)] none []] ok0<|
 .gx lS_ p_s1 v0 fun x0 _=>
 .gx lS_ p_s2 v0 fun x1 _=>
 .iB (!decide ((x0:ByteArray)=(x1:ByteArray))) (.rt [4] 0 (.inr (.inl ())))<|
 .rt [0,1,12,13] 0 (.inl (IntKind.wrap .i64 (v0+1))))<|
 .rt [] 0 (.inr (.inr (())))
def atM(p_s1:List ByteArray)(p_s2:List ByteArray)(v0:Int):Option (Unit⊕Unit):=bV (fun v_=>(yJ p_s1 p_s2 v_).den) FU (v0)
def akR(p_s1:List ByteArray)(p_s2:List ByteArray):Mo (Bool):=
 .nu p_s1 lfS<|
 .nu p_s2 lfS<|
 .iB ((p_s1.length:Int) != (p_s2.length:Int)) (.ret (aU 1) (false))<|
 .nu p_s1 lfS<|
 .l2 Tryz.f23 0 [1,1,0,1,0] 0 (fun(v0)=>⟨[(0,.lf (.rows 1 (p_s1.map lfS))),(1,.lf (.rows 1 (p_s2.map lfS))),(12,.i_ (p_s1.length:Int)),(13,.i_ v0)],[]⟩) .ret (fun _=>⟨[(4,.b_ false)],[]⟩) (.exit 0) (fun _=>⟨[],[]⟩) (yJ p_s1 p_s2) (0) (fun o0=>
 .ret (aU 1) (false)) fun o1=>
 .ret (aU 1) (true)
def Q94(p_s1:List ByteArray)(p_s2:List ByteArray):Option (Bool):=Mo.den (akR p_s1 p_s2)
theorem atN(p_s1:List ByteArray)(p_s2:List ByteArray):FV (Q94 p_s1 p_s2) 23 [.lf (.rows 1 (p_s1.map lfS)),.lf (.rows 1 (p_s2.map lfS))] .b_:=dw Tryz.func23
def yK(p_l:List aY)(v0:Int)(x0:aY):(Int)→Mo ((Int)⊕(Unit⊕Unit)):=fun(v1)=>
 .iB (decide ((v1:Int)<((p_l.take v0.toNat).length:Int))) (.gx aY.aX (p_l.take v0.toNat) v1 fun x1 _=>
 .cl (atN x1.cO x0.cO) fun r0 _=>
 .iB (r0) (.ret ⟨[.kill 0],[2],[],1⟩ (.inr (.inl ())))<|
 .rt [0,4,10,11,12,23,24,25] 1 (.inl (IntKind.wrap .i64 (v1+1))))<|
 .ret ⟨[.kill 0],[0,10,11,12],[],1⟩ (.inr (.inr (())))
def ac2(p_l:List aY)(v0:Int)(x0:aY)(v1:Int):Option (Unit⊕Unit):=bV (fun v_=>(yK p_l v0 x0 v_).den) FU (v1)
def yL(p_l:List aY):(Int)→Mo ((Int)⊕(Int)⊕Unit):=fun(v0)=>
 .iB (decide ((v0:Int)<(p_l.length:Int))) (.gx aY.aX p_l v0 fun x0 _=>
 .cl (Ee x0.cO) fun r0 _=>
 .iB (!r0) (.rt [2] 0 (.inr (.inl (10))))<|
 .say [.rows ((p_l.take v0.toNat).map aY.lf),.num (p_l.take v0.toNat).length] (ok1 (by first|(simp[aY.aX];done)|exact KQ _ _ _:(p_l.take v0.toNat).map aY.lf=((p_l.map aY.lf).take v0.toNat).drop (0:Int).toNat))<|
 .grd ((0:Int)≤0∧0≤v0∧v0≤(p_l.length:Int)) fun h0=>
 .say [] (okc (by simpa using h0:(0:Int)≤0∧0≤v0∧v0≤((p_l.map aY.lf).length:Int)) (ok1 (ln_ (p_l.take v0.toNat) aY.lf)))<|
 .l2m [] Tryz.f117 0 [1,1,0,1,0,0,1,1,0,0,1,1,1,0] 0 (fun(v1)=>⟨[(0,.lf (.rows 2 (p_l.map aY.lf))),(4,.ptr 0 0),(10,.lf (.rows 2 (p_l.map aY.lf))),(11,.i_ (p_l.length:Int)),(12,.i_ v0),(23,.lf (.rows 2 ((p_l.take v0.toNat).map aY.lf))),(24,.i_ ((p_l.take v0.toNat).length:Int)),(25,.i_ v1)],[.box 149 (.agg [.lf (.rows 1 (x0.cO.map lfS)),.b_ x0.xW])]⟩) .ret (fun _=>⟨[(2,.i_ 12)],[.dead]⟩) (.exit 2) (fun _=>⟨[(0,.lf (.rows 2 (p_l.map aY.lf))),(10,.lf (.rows 2 (p_l.map aY.lf))),(11,.i_ (p_l.length:Int)),(12,.i_ v0)],[.dead]⟩) (ac2 p_l v0 x0 0) (yK p_l v0 x0) (0) (fun o0=>
 .rt [2] 0 (.inr (.inl (12)))) fun o1=>
 .rt [0,10,11,12] 0 (.inl (IntKind.wrap .i64 (v0+1))))<|
 .rt [] 0 (.inr (.inr (())))
def atO(p_l:List aY)(v0:Int):Option ((Int)⊕Unit):=bV (fun v_=>(yL p_l v_).den) FU (v0)
def akS(p_l:List aY):Mo (Int):=
 .nu p_l aY.lf<|
 .iB (decide ((8:Int)<(p_l.length:Int))) (.ret (aU 1) (2))<|
 .nu p_l aY.lf<|
 .l2 Tryz.f117 0 [1,1,0,1,0] 0 (fun(v0)=>⟨[(0,.lf (.rows 2 (p_l.map aY.lf))),(10,.lf (.rows 2 (p_l.map aY.lf))),(11,.i_ (p_l.length:Int)),(12,.i_ v0)],[]⟩) .ret (fun o_=>⟨[(2,.i_ o_)],[]⟩) (.exit 0) (fun _=>⟨[],[]⟩) (yL p_l) (0) (fun o0=>
 .ret (aU 1) (o0)) fun o1=>
 .ret (aU 1) (0)
def Q87(p_l:List aY):Option (Int):=Mo.den (akS p_l)
theorem atP(p_l:List aY):FV (Q87 p_l) 117 [.lf (.rows 2 (p_l.map aY.lf))] .i_:=dw Tryz.func117
abbrev ac3(m:aO→Int→Int→Option (Bool×Int)):Prop:=∀p_p p_level p_b0,FH (m p_p p_level p_b0) 185 [.dat (aO.lf1 p_p),.i_ p_level,.ptr 0 0] [.box 3 (.dat [(.int .i64 p_b0)])] (fun r=>.b_ r.1) (fun r=>[.box 3 (.dat [(.int .i64 r.2)])])
structure RB7 where
 m1:(p_p:aO)→(p_level:Int)→(p_b0:Int)→Option (Bool×Int)
 ok1:ac3 m1
def Ef(R_:RB7)(p_b0:Int)(p_level:Int)(p_p:aO):Mo (Bool):=
 .oV 4002 (decide ((16:Int)<p_level)) [1,2,3,16] 2 (p_b0==256)
def yM(R_:RB7)(p_level:Int)(p_p:aO):(Int×Int)→Mo ((Int×Int)⊕(Int)⊕(Int)):=fun(v0,v1)=>
 .iB (decide ((v0:Int)<(p_p.bC.length:Int))) (.gx aO.aX p_p.bC v0 fun x0 _=>
 .say [.at_ 16 4,.tod 29] ok0<|
 .cH [0] (R_.ok1 x0 (IntKind.wrap .i64 (p_level+1)) v1) fun r0 _=>
 .iB (!r0.1) (.rt [6] 2 (.inr (.inl (r0.2))))<|
 .rt [1,2,23,24,25] 2 (.inl (IntKind.wrap .i64 (v0+1),r0.2)))<|
 .rt [] 2 (.inr (.inr (v1)))
def atQ(R_:RB7)(p_level:Int)(p_p:aO)(v0:Int)(v1:Int):Option ((Int)⊕(Int)):=bV (fun v_=>(yM R_ p_level p_p v_).den) FU (v0,v1)
def LM(R_:RB7)(p_p:aO)(p_level:Int)(p_b0:Int):Mo (Bool×Int):=
 .jk Tryz.f185 1 [1,0,0] 9 (fun r_=>⟨[(1,.i_ p_level),(2,.ptr 0 0),(3,.ptr 1 0),(16,.b_ r_)],[.box 3 (.dat [(.int .i64 p_b0)]),dA p_p]⟩) ⟨[(1,.i_ p_level),(2,.ptr 0 0),(3,.ptr 1 0)],[.box 3 (.dat [(.int .i64 p_b0)]),dA p_p]⟩ (Ef R_ p_b0 p_level p_p) fun r0=>
 .iB (r0) (.ret ⟨[.kill 1],[0],[],1⟩ (false,p_b0))<|
 .nu p_p.bC aO.lf<|
 .l2y [.kill 1] Tryz.f185 1 [1,1,1,0,1,0] 0 (fun(v0,v1)=>⟨[(1,.i_ p_level),(2,.ptr 0 0),(23,.lf (.rows 25 (p_p.bC.map aO.lf))),(24,.i_ (p_p.bC.length:Int)),(25,.i_ v0)],[.box 3 (.dat [(.int .i64 v1)]),.dead]⟩) .ret (fun o_=>⟨[(6,.b_ false)],[.box 3 (.dat [(.int .i64 o_)]),.dead]⟩) (.exit 0) (fun o_=>⟨[],[.box 3 (.dat [(.int .i64 o_)]),.dead]⟩) (yM R_ p_level p_p) (0,(IntKind.wrap .i64 (p_b0+1))) (fun o0=>
 .rt [0] 1 (false,o0)) fun o1=>
 .rt [0] 1 (true,o1)
theorem apw(R_:RB7):ac3 fun p_p p_level p_b0=>Mo.den (LM R_ p_p p_level p_b0):=fun _ _ _=>eP Tryz.func185
def yN:Nat→RB7
 |0=>{ m1:=fun p_p p_level p_b0=>none,ok1:=fun _ _ _ _ h=>(by cases h) }
 |n_+1=>{ m1:=fun p_p p_level p_b0=>Mo.den (LM (yN n_) p_p p_level p_b0),ok1:=apw (yN n_) }
def Q70(p_p:aO)(p_level:Int)(p_b0:Int):Option (Bool×Int):=(yN FU).m1 p_p p_level p_b0
theorem atS:ac3 Q70:=(yN FU).ok1
def Rj(p_n:Int)(p_op:Int):Mo (Bool):=
 .iB (p_op==15) (.rt [1,5,6] 0 (p_op==15))<|
 .rt [1,5,6] 0 (p_op==23)
def Rk(p_n:Int)(p_op:Int):Mo (Bool):=
 .iB (p_op==20) (.rt [1,11] 0 (p_op==20))<|
 .iB (p_op==21) (.rt [1,11] 0 (p_op==21))<|
 .rt [1,11] 0 (p_op==22)
def ac4(p_op:Int)(p_n:Int):Mo (Bool):=
 .jk Tryz.f303 0 [1,0,1,0,0,1] 1 (fun r_=>⟨[(1,.i_ p_n),(5,.i_ p_op),(6,.b_ r_)],[]⟩) ⟨[(1,.i_ p_n),(5,.i_ p_op),(6,.lf (.bool (p_op==15)))],[]⟩ (Rj p_n p_op) fun r0=>
 .iB (r0) (.ret (aU 1) (p_n==1))<|
 .jk Tryz.f303 0 [1,0,1,0,1,1,0,1] 1 (fun r_=>⟨[(1,.i_ p_n),(11,.b_ r_)],[]⟩) ⟨[(1,.i_ p_n),(5,.i_ p_op),(11,.lf (.bool (p_op==20)))],[]⟩ (Rk p_n p_op) fun r1=>
 .iB (r1) (.ret (aU 1) (decide ((1:Int)≤p_n)))<|
 .ret (aU 1) (p_n==0)
def akT(p_op:Int)(p_n:Int):Option (Bool):=Mo.den (ac4 p_op p_n)
theorem apx(p_op:Int)(p_n:Int):FV (akT p_op p_n) 303 [.i_ p_op,.i_ p_n] .b_:=dw Tryz.func303
def afS(p_op:Int):Mo (Bool):=
 .iG 4002 (p_op==8) (.ret (aU 1) (true))<|
 .iG 4006 (p_op==9) (.ret (aU 1) (true))<|
 .ret (aU 1) (p_op==14)
def Q98(p_op:Int):Option (Bool):=Mo.den (afS p_op)
theorem ac5(p_op:Int):FV (Q98 p_op) 304 [.i_ p_op] .b_:=dw Tryz.func304
def Eh(p_p:aO):Mo (Bool):=
 .iG 8003 (p_p.fN==0) (.ret ⟨[.kill 0],[2],[],1⟩ (true))<|
 .ret ⟨[.kill 0],[2],[],1⟩ (p_p.fN==1)
def Ei(p_p:aO):Mo (Bool):=
 .iG 12003 (decide ((1:Int)≤p_p.fN)) (.ret ⟨[.kill 0],[2],[],1⟩ (decide ((p_p.fN:Int)≤11)))<|
 .ret ⟨[.kill 0],[2],[],1⟩ (false)
def AB(p_p:aO):Mo (Bool):=
 .aV 16003 (decide ((1:Int)≤p_p.fN)) [1,2,34] 1 (decide ((0:Int)≤p_p.fM))
def AO(p_p:aO)(r0:Bool):Mo (Bool):=
 .iG 16008 (r0) (.ret ⟨[.kill 0],[2,41],[],1⟩ (decide ((p_p.fM:Int)<p_p.fN)))<|
 .ret ⟨[.kill 0],[2,41],[],1⟩ (false)
def akU(p_p:aO):Mo (Bool):=
 .iB (p_p.fOp==10) (.jk Tryz.f305 0 [1,0,1,0,1,0,0] 13 (fun r_=>⟨[(2,.b_ r_)],[.dead]⟩) ⟨[(1,.ptr 0 0)],[dA p_p]⟩ (Eh p_p) fun r0=>
 .ret (aU 1) (r0))<|
 .iB (p_p.fOp==11) (.jk Tryz.f305 0 [1,0,1,0,1,1,1,0,0] 17 (fun r_=>⟨[(2,.b_ r_)],[.dead]⟩) ⟨[(1,.ptr 0 0)],[dA p_p]⟩ (Ei p_p) fun r1=>
 .ret (aU 1) (r1))<|
 .iB (p_p.fOp==12) (.sf Tryz.f305 0 [1,0,1,0,1,1,1,1,1,0,0] 0 8 7 [(1,.ptr 0 0),(2,.b_ false)] [dA p_p] 34 (AB p_p) fun r2=>
 .sk Tryz.f305 0 [1,0,1,0,1,1,1,1,1,0,0] 8 7 7 (fun r_=>⟨[(2,.b_ false),(41,.b_ r_)],[.dead]⟩) ⟨[(1,.ptr 0 0),(2,.b_ false),(34,.b_ r2)],[dA p_p]⟩ (AO p_p r2) fun r3=>
 .sk Tryz.f305 0 [1,0,1,0,1,1,1,1,1,0,0] 15 1 7 (fun r_=>⟨[(2,.b_ r3)],[.dead]⟩) ⟨[(2,.b_ false),(41,.b_ r3)],[.dead]⟩ (dQ r3) fun r4=>
 .ret (aU 1) (r3))<|
 .iB (p_p.fOp==13) (.ret (aU 1) (decide ((0:Int)≤p_p.fN)))<|
 .ret (aU 1) (true)
def Q49(p_p:aO):Option (Bool):=Mo.den (akU p_p)
theorem atT(p_p:aO):FV (Q49 p_p) 305 [.dat (aO.lf1 p_p)] .b_:=dw Tryz.func305
def Wu(p_op:Int):Mo (Bool):=
 .iG 4002 (decide ((2:Int)≤p_op)) (.ret (aU 1) (decide ((p_op:Int)≤19)))<|
 .ret (aU 1) (false)
def Pn(p_op:Int):Option (Bool):=Mo.den (Wu p_op)
theorem afT(p_op:Int):FV (Pn p_op) 306 [.i_ p_op] .b_:=dw Tryz.func306
def Wv(p_op:Int):Mo (Bool):=
 .iG 4002 (p_op==16) (.ret (aU 1) (true))<|
 .iG 4006 (p_op==17) (.ret (aU 1) (true))<|
 .ret (aU 1) (p_op==19)
def ZM(p_op:Int):Option (Bool):=Mo.den (Wv p_op)
theorem Wx(p_op:Int):FV (ZM p_op) 308 [.i_ p_op] .b_:=dw Tryz.func308
def Wy(p_op:Int):Mo (Bool):=
 .iG 4002 (decide ((2:Int)≤p_op)) (.iG 4006 (decide ((p_op:Int)≤7)) (.ret (aU 1) (true))<|
 .cl (Wx p_op) fun r0 _=>
 .ret (aU 1) (r0))<|
 .cl (Wx p_op) fun r1 _=>
 .ret (aU 1) (r1)
def ZN(p_op:Int):Option (Bool):=Mo.den (Wy p_op)
theorem afU(p_op:Int):FV (ZN p_op) 307 [.i_ p_op] .b_:=dw Tryz.func307
def LQ(p_n:Int):Mo (Bool):=
 .iG 4002 (decide ((0:Int)≤p_n)) (.ret (aU 1) (decide ((p_n:Int)<65536)))<|
 .ret (aU 1) (false)
def WA(p_n:Int):Option (Bool):=Mo.den (LQ p_n)
theorem WB(p_n:Int):FV (WA p_n) 331 [.i_ p_n] .b_:=dw Tryz.func331
def WC(p_p:bU):Mo (Bool):=
 .cl (WB p_p.fX) fun r0 _=>
 .iG 4003 (r0) (.cl (WB p_p.fY) fun r1 _=>
 .ret (aU 1) (r1))<|
 .ret (aU 1) (false)
def ah1(p_p:bU):Option (Bool):=Mo.den (WC p_p)
theorem apy(p_p:bU):FV (ah1 p_p) 332 [.dat (bU.lf1 p_p)] .b_:=dw Tryz.func332
def GZ(p_s:dL):Mo (Bool):=
 .iB (p_s.aF==1) (.aV 12002 ((p_s.bG.length:Int)==2) [1,4] 1 (p_s.fR==0))<|
 .iB (p_s.aF==2) (.aC 16002 ((p_s.bG.length:Int)==1) [1,4] 1 (WB p_s.fR))<|
 .iB (p_s.aF==3) (.iG 20002 (decide ((3:Int)≤(p_s.bG.length:Int))) (.aV 20006 (decide (((p_s.bG.length:Int):Int)≤64)) [1,4] 1 (p_s.fR==0))<|
 .rt [1,4] 1 (false))<|
 .rt [1,4] 1 (false)
def WE(p_s:dL):Option (Bool):=Mo.den (GZ p_s)
def vF(p_s:dL):(Int)→Mo ((Int)⊕(Unit⊕Unit)):=fun(v0)=>
 .iB (decide ((v0:Int)<(p_s.bG.length:Int))) (.gx bU.aX p_s.bG v0 fun x0 _=>
 .cl (apy x0) fun r0 _=>
 .iB (!r0) (.rt [2] 1 (.inr (.inl ())))<|
 .rt [46,47,48] 1 (.inl (IntKind.wrap .i64 (v0+1))))<|
 .rt [] 1 (.inr (.inr (())))
def WG(p_s:dL)(v0:Int):Option (Unit⊕Unit):=bV (fun v_=>(vF p_s v_).den) FU (v0)
def ac6(p_s:dL):Mo (Int):=
 .nu p_s.bG bU.lf<|
 .jp Tryz.f309 0 [1,1,1,0,1] 6 [1,3,4,11] 1 (.normal) (fun r_=>⟨[(1,.ptr 0 0),(4,.b_ r_)],[xZ p_s]⟩) ⟨[(1,.ptr 0 0),(3,.i_ (p_s.bG.length:Int)),(4,.b_ false),(11,.i_ p_s.aF)],[xZ p_s]⟩ (WE p_s) (jW (by kernel_rfl)) fun r0 _=>
 .iB (!r0) (.ret (aU 1) (18))<|
 .nu p_s.bG bU.lf<|
 .l2m [.kill 0] Tryz.f309 0 [1,1,1,1,1,0,1,0] 0 (fun(v0)=>⟨[(46,.lf (.rows 2 (p_s.bG.map bU.lf))),(47,.i_ (p_s.bG.length:Int)),(48,.i_ v0)],[.dead]⟩) .ret (fun _=>⟨[(2,.i_ 18)],[.dead]⟩) (.exit 1) (fun _=>⟨[],[.dead]⟩) (WG p_s 0) (vF p_s) (0) (fun o0=>
 .ret (aU 1) (18)) fun o1=>
 .ret (aU 1) (0)
def apz(p_s:dL):Option (Int):=Mo.den (ac6 p_s)
theorem apA(p_s:dL):FV (apz p_s) 309 [.dat (dL.lf1 p_s)] .i_:=dw Tryz.func309
def ac7(p_v:ah):Mo (Bool):=
 .sf Tryz.f333 0 [1,0] 0 8 1 [(1,.ptr 0 0),(2,.b_ false)] [aZ p_v] 10 (oW p_v) fun r0=>
 .sb Tryz.f333 0 [1,0] 8 5 1 [(1,.ptr 0 0),(2,.b_ false)] [aZ p_v] 10 15 r0 (oZ p_v r0) fun r1=>
 .sb Tryz.f333 0 [1,0] 13 6 1 [(1,.ptr 0 0),(2,.b_ false)] [aZ p_v] 15 21 r1 (mW p_v r1) fun r2=>
 .sk Tryz.f333 0 [1,0] 19 6 1 (fun r_=>⟨[(2,.b_ false),(27,.b_ r_)],[.dead]⟩) ⟨[(1,.ptr 0 0),(2,.b_ false),(21,.b_ r2)],[aZ p_v]⟩ (mX p_v r2) fun r3=>
 .sk Tryz.f333 0 [1,0] 25 1 1 (fun r_=>⟨[(2,.b_ r3)],[.dead]⟩) ⟨[(2,.b_ false),(27,.b_ r3)],[.dead]⟩ (dQ r3) fun r4=>
 .ret (aU 1) (r3)
def apB(p_v:ah):Option (Bool):=Mo.den (ac7 p_v)
theorem afV(p_v:ah):FV (apB p_v) 333 [.dat (ah.lf1 p_v)] .b_:=dw Tryz.func333
def Rl(p_op:Int):Mo (Bool):=
 .oV 4002 (p_op==10) [0,2,8] 0 (p_op==11)
def Rn(p_op:Int)(r0:Bool):Mo (Bool):=
 .oV 4006 (r0) [0,2,12] 0 (p_op==12)
def LU(p_op:Int)(r0:Bool):Mo (Bool):=
 .oV 4010 (r0) [2,16] 0 (p_op==13)
def ac8(p_op:Int):Mo (Bool):=
 .sf Tryz.f334 0 [1,0] 0 6 1 [(0,.i_ p_op),(2,.b_ false)] [] 8 (Rl p_op) fun r0=>
 .sb Tryz.f334 0 [1,0] 6 4 1 [(0,.i_ p_op),(2,.b_ false)] [] 8 12 r0 (Rn p_op r0) fun r1=>
 .sk Tryz.f334 0 [1,0] 10 4 1 (fun r_=>⟨[(2,.b_ false),(16,.b_ r_)],[]⟩) ⟨[(0,.i_ p_op),(2,.b_ false),(12,.b_ r1)],[]⟩ (LU p_op r1) fun r2=>
 .sk Tryz.f334 0 [1,0] 14 1 1 (fun r_=>⟨[(2,.b_ r2)],[]⟩) ⟨[(2,.b_ false),(16,.b_ r2)],[]⟩ (wW r2) fun r3=>
 .ret (aU 1) (r2)
def atU(p_op:Int):Option (Bool):=Mo.den (ac8 p_op)
theorem apC(p_op:Int):FV (atU p_op) 334 [.i_ p_op] .b_:=dw Tryz.func334
def CY(p_e:aQ)(r0:Bool):Mo (Bool):=
 .aC 4020 (r0) [1,2,27] 1 (afV p_e.fArg)
def WH(p_e:aQ):Mo (Bool):=
 .sf Tryz.f335 0 [1,0] 0 9 1 [(1,.ptr 0 0),(2,.b_ false)] [dM p_e] 11 (o7 p_e) fun r0=>
 .sb Tryz.f335 0 [1,0] 9 5 1 [(1,.ptr 0 0),(2,.b_ false)] [dM p_e] 11 16 r0 (o8 p_e r0) fun r1=>
 .sb Tryz.f335 0 [1,0] 14 6 1 [(1,.ptr 0 0),(2,.b_ false)] [dM p_e] 16 22 r1 (nK p_e r1) fun r2=>
 .sb Tryz.f335 0 [1,0] 20 5 1 [(1,.ptr 0 0),(2,.b_ false)] [dM p_e] 22 27 r2 (CY p_e r2) fun r3=>
 .sb Tryz.f335 0 [1,0] 25 5 1 [(1,.ptr 0 0),(2,.b_ false)] [dM p_e] 27 32 r3 (nN p_e r3) fun r4=>
 .sk Tryz.f335 0 [1,0] 30 6 1 (fun r_=>⟨[(2,.b_ false),(38,.b_ r_)],[.dead]⟩) ⟨[(1,.ptr 0 0),(2,.b_ false),(32,.b_ r4)],[dM p_e]⟩ (nO p_e r4) fun r5=>
 .sk Tryz.f335 0 [1,0] 36 1 1 (fun r_=>⟨[(2,.b_ r5)],[.dead]⟩) ⟨[(2,.b_ false),(38,.b_ r5)],[.dead]⟩ (dQ r5) fun r6=>
 .ret (aU 1) (r5)
def ah2(p_e:aQ):Option (Bool):=Mo.den (WH p_e)
theorem apD(p_e:aQ):FV (ah2 p_e) 335 [.dat (aQ.lf1 p_e)] .b_:=dw Tryz.func335
def ZO(p_p:aO):Mo (Bool):=
 .cl (afT p_p.fOp) fun r0 _=>
 .iG 6004 (!r0) (.nu p_p.cO lfS<|
 .rt [1,3] 1 (decide ((0:Int)<(p_p.cO.length:Int))))<|
 .rt [1,3] 1 (false)
def ZP(p_p:aO):Mo (Bool):=
 .cl (afU p_p.fOp) fun r0 _=>
 .iG 8004 (!r0) (.cl (afV p_p.fArg) fun r1 _=>
 .rt [1,14] 1 (!r1))<|
 .rt [1,14] 1 (false)
def Ro(p_p:aO):Mo (Bool):=
 .cl (ac5 p_p.fOp) fun r0 _=>
 .iG 10004 (!r0) (.nu p_p.fArgs ah.lf<|
 .rt [1,25] 1 (decide ((0:Int)<(p_p.fArgs.length:Int))))<|
 .rt [1,25] 1 (false)
def Rq(p_p:aO):Mo (Bool):=
 .cl (apC p_p.fOp) fun r0 _=>
 .aV 12004 (!r0) [1,36] 1 (p_p.fN != 0)
def Rt(p_p:aO):Mo (Bool):=
 .aV 14003 (p_p.fOp != 12) [1,46] 1 (p_p.fM != 0)
def Ru(p_p:aO):Mo (Bool):=
 .iG 16003 (p_p.fOp != 18) (.iG 16008 (p_p.dI.aF != 0) (.rt [1,77] 1 (true))<|
 .nu p_p.dI.bG bU.lf<|
 .oV 16015 (decide ((0:Int)<(p_p.dI.bG.length:Int))) [1,77] 1 (p_p.dI.fR != 0))<|
 .rt [1,77] 1 (false)
def Rw(p_p:aO)(r0:Bool):Mo (Unit):=
 .rt [1,55] 1 ()
def Rx(p_p:aO):Mo (Bool):=
 .iG 18003 (p_p.fOp != 24) (.cl (apD p_p.fExpr) fun r0 _=>
 .ret ⟨[.kill 0],[78],[],1⟩ (!r0))<|
 .ret ⟨[.kill 0],[78],[],1⟩ (false)
def G5(p_p:aO):Mo (Unit⊕Unit):=
 .jk Tryz.f310 0 [1,0,0,0] 11 (fun r_=>⟨[(1,.ptr 0 0),(3,.b_ r_)],[dA p_p]⟩) ⟨[(1,.ptr 0 0)],[dA p_p]⟩ (ZO p_p) fun r0=>
 .iB (r0) (.ret ⟨[.kill 0],[],[],1⟩ (.inl ()))<|
 .jk Tryz.f310 0 [1,0,0,1,1,0] 13 (fun r_=>⟨[(1,.ptr 0 0),(14,.b_ r_)],[dA p_p]⟩) ⟨[(1,.ptr 0 0)],[dA p_p]⟩ (ZP p_p) fun r1=>
 .iB (r1) (.ret ⟨[.kill 0],[],[],1⟩ (.inl ()))<|
 .jk Tryz.f310 0 [1,0,0,1,1,1,1,0] 15 (fun r_=>⟨[(1,.ptr 0 0),(25,.b_ r_)],[dA p_p]⟩) ⟨[(1,.ptr 0 0)],[dA p_p]⟩ (Ro p_p) fun r2=>
 .iB (r2) (.ret ⟨[.kill 0],[],[],1⟩ (.inl ()))<|
 .jk Tryz.f310 0 [1,0,0,1,1,1,1,1,1,0] 17 (fun r_=>⟨[(1,.ptr 0 0),(36,.b_ r_)],[dA p_p]⟩) ⟨[(1,.ptr 0 0)],[dA p_p]⟩ (Rq p_p) fun r3=>
 .iB (r3) (.ret ⟨[.kill 0],[],[],1⟩ (.inl ()))<|
 .jk Tryz.f310 0 [1,0,0,1,1,1,1,1,1,1,1,0] 19 (fun r_=>⟨[(1,.ptr 0 0),(46,.b_ r_)],[dA p_p]⟩) ⟨[(1,.ptr 0 0)],[dA p_p]⟩ (Rt p_p) fun r4=>
 .iB (r4) (.ret ⟨[.kill 0],[],[],1⟩ (.inl ()))<|
 .sf Tryz.f310 0 [1,0,0,1,1,1,1,1,1,1,1,1,1,0] 0 22 7 [(1,.ptr 0 0)] [dA p_p] 77 (Ru p_p) fun r5=>
 .sk Tryz.f310 0 [1,0,0,1,1,1,1,1,1,1,1,1,1,0] 22 1 7 (fun r_=>⟨[(1,.ptr 0 0),(55,.b_ r5)],[dA p_p]⟩) ⟨[(1,.ptr 0 0),(77,.b_ r5)],[dA p_p]⟩ (Rw p_p r5) fun r6=>
 .iB (r5) (.ret ⟨[.kill 0],[],[],1⟩ (.inl ()))<|
 .jk Tryz.f310 0 [1,0,0,1,1,1,1,1,1,1,1,1,1,1,1,0] 23 (fun r_=>⟨[(78,.b_ r_)],[.dead]⟩) ⟨[(1,.ptr 0 0)],[dA p_p]⟩ (Rx p_p) fun r7=>
 .iB (r7) (.rt [] 1 (.inl ()))<|
 .rt [2] 1 (.inr (()))
def JR(p_p:aO):Option (Unit⊕Unit):=Mo.den (G5 p_p)
def AP(r_:Unit⊕Unit):Exit:=match r_ with
 |.inl o_=>.normal
 |.inr (o_)=>.ret
def AQ  (r_:Unit⊕Unit):St:=match r_ with
 |.inl o_=>⟨[],[.dead]⟩
 |.inr (o_)=>⟨[(2,.b_ true)],[.dead]⟩
theorem Ry{p_p:aO}{r_:Unit⊕Unit}(h:JR p_p=some r_):Ph Tryz.f310 0 [1,0] (AP r_) (AQ r_) ⟨[(1,.ptr 0 0)],[dA p_p]⟩:=
 CV oP (G5 p_p) AP AQ (by kernel_rfl) h
def akV(p_p:aO):Mo (Bool):=
 .lI (JR p_p) (fun o0 h0=>
 .say [.pt_ 6 [1] 1 (AP (.inl o0)) (AQ (.inl o0))] (ok1 (Ry h0))<|
 .ret (aU 1) (false)) fun o1 h0=>
 .say [.pt_ 6 [1] 1 (AP (.inr (o1))) (AQ (.inr (o1)))] (ok1 (Ry h0))<|
 .ret (aU 1) (true)
def Q16(p_p:aO):Option (Bool):=Mo.den (akV p_p)
theorem atV(p_p:aO):FV (Q16 p_p) 310 [.dat (aO.lf1 p_p)] .b_:=dw Tryz.func310
def Ej(p_op:Int):Mo (Bool):=
 .iB (p_op==1) (.rt [3,4] 0 (p_op==1))<|
 .iB (p_op==2) (.rt [3,4] 0 (p_op==2))<|
 .rt [3,4] 0 (p_op==3)
def Em(p_op:Int):Mo (Bool):=
 .iB (p_op==18) (.rt [3,8] 0 (p_op==18))<|
 .iB (p_op==22) (.rt [3,8] 0 (p_op==22))<|
 .iB (p_op==23) (.rt [3,8] 0 (p_op==23))<|
 .iB (p_op==24) (.rt [3,8] 0 (p_op==24))<|
 .iB (p_op==26) (.rt [3,8] 0 (p_op==26))<|
 .iB (p_op==30) (.rt [3,8] 0 (p_op==30))<|
 .iB (p_op==31) (.rt [3,8] 0 (p_op==31))<|
 .rt [3,8] 0 (p_op==36)
def Rz(p_op:Int):Mo (Bool):=
 .iB (p_op==32) (.rt [3,17] 0 (p_op==32))<|
 .rt [3,17] 0 (p_op==33)
def RD(p_op:Int):Mo (Bool):=
 .iB (p_op==19) (.rt [3,20] 0 (p_op==19))<|
 .rt [3,20] 0 (p_op==25)
def RF(p_op:Int):Mo (Bool):=
 .iB (p_op==4) (.rt [3,23] 0 (p_op==4))<|
 .iB (p_op==6) (.rt [3,23] 0 (p_op==6))<|
 .iB (p_op==16) (.rt [3,23] 0 (p_op==16))<|
 .iB (p_op==17) (.rt [3,23] 0 (p_op==17))<|
 .iB (p_op==21) (.rt [3,23] 0 (p_op==21))<|
 .iB (p_op==29) (.rt [3,23] 0 (p_op==29))<|
 .rt [3,23] 0 (p_op==37)
def akW(p_op:Int):Mo (Int):=
 .jk Tryz.f343 0 [1,0,1,0,0,1] 1 (fun r_=>⟨[(3,.i_ p_op),(4,.b_ r_)],[]⟩) ⟨[(3,.i_ p_op),(4,.lf (.bool (p_op==1)))],[]⟩ (Ej p_op) fun r0=>
 .iB (r0) (.ret (aU 1) (0))<|
 .jk Tryz.f343 0 [1,0,1,0,1,1,0,1] 1 (fun r_=>⟨[(3,.i_ p_op),(8,.b_ r_)],[]⟩) ⟨[(3,.i_ p_op),(8,.lf (.bool (p_op==18)))],[]⟩ (Em p_op) fun r1=>
 .iB (r1) (.ret (aU 1) (1))<|
 .jk Tryz.f343 0 [1,0,1,0,1,1,1,1,0,1] 1 (fun r_=>⟨[(3,.i_ p_op),(17,.b_ r_)],[]⟩) ⟨[(3,.i_ p_op),(17,.lf (.bool (p_op==32)))],[]⟩ (Rz p_op) fun r2=>
 .iB (r2) (.ret (aU 1) (3))<|
 .jk Tryz.f343 0 [1,0,1,0,1,1,1,1,1,1,0,1] 1 (fun r_=>⟨[(3,.i_ p_op),(20,.b_ r_)],[]⟩) ⟨[(3,.i_ p_op),(20,.lf (.bool (p_op==19)))],[]⟩ (RD p_op) fun r3=>
 .iB (r3) (.ret (aU 1) (4))<|
 .jk Tryz.f343 0 [1,0,1,0,1,1,1,1,1,1,1,1,0,1] 1 (fun r_=>⟨[(3,.i_ p_op),(23,.b_ r_)],[]⟩) ⟨[(3,.i_ p_op),(23,.lf (.bool (p_op==4)))],[]⟩ (RF p_op) fun r4=>
 .iB (r4) (.ret (aU 1) (5))<|
 .iB (p_op==35) (.ret (aU 1) (6))<|
 .iB (p_op==34) (.ret (aU 1) (7))<|
 .ret (aU 1) (2)
def Q82(p_op:Int):Option (Int):=Mo.den (akW p_op)
theorem akX(p_op:Int):FV (Q82 p_op) 343 [.i_ p_op] .i_:=dw Tryz.func343
def RG(p_n:Int)(p_shape:Int):Mo (Bool):=
 .iB (p_shape==2) (.rt [1,5,14] 0 (p_shape==2))<|
 .rt [1,5,14] 0 (p_shape==3)
def ac9(p_shape:Int)(p_n:Int):Mo (Bool):=
 .iB (p_shape==0) (.ret (aU 1) (p_n==0))<|
 .iB (p_shape==1) (.ret (aU 1) (p_n==1))<|
 .jk Tryz.f342 0 [1,0,1,0,1,1,1,1,0,1] 1 (fun r_=>⟨[(1,.i_ p_n),(5,.i_ p_shape),(14,.b_ r_)],[]⟩) ⟨[(1,.i_ p_n),(5,.i_ p_shape),(14,.lf (.bool (p_shape==2)))],[]⟩ (RG p_n p_shape) fun r0=>
 .iB (r0) (.ret (aU 1) (p_n==2))<|
 .iB (p_shape==4) (.ret (aU 1) (p_n==3))<|
 .iB (p_shape==7) (.ret (aU 1) (decide ((1:Int)≤p_n)))<|
 .ret (aU 1) (true)
def apE(p_shape:Int)(p_n:Int):Option (Bool):=Mo.den (ac9 p_shape p_n)
theorem apF(p_shape:Int)(p_n:Int):FV (apE p_shape p_n) 342 [.i_ p_shape,.i_ p_n] .b_:=dw Tryz.func342
def ada(p_s:ByteArray):Mo (Bool):=
 .say [.at_ 4 2,.yg 0 ([p_s].map lfS)] (ok1 (by simp[lfS]:[p_s].map lfS=[(lfS p_s)]))<|
 .cl (Ee [p_s]) fun r0 _=>
 .ret (aU 1) (r0)
def apG(p_s:ByteArray):Option (Bool):=Mo.den (ada p_s)
theorem afW(p_s:ByteArray):FV (apG p_s) 344 [.lf (.str p_s)] .b_:=dw Tryz.func344
def LV(m4094:List (ByteArray×Bool))(p_l:List ByteArray)(v0:Int)(x0:ByteArray):Mo (Bool):=
 .cl (afW x0) fun r0 _=>
 .iG 12003 (!r0) (.rt [3,5,7,8,9,20] 1 (true))<|
 .say [.row [.bool (uX m4094 x0 false)]] (okc (rfl:Tryz.prog=Tryz.prog) (ok1 (Gu _ _ _:oz (m4094.map mvB) x0 (.bool false)=(.bool (uX m4094 x0 false)))))<|
 .rt [3,5,7,8,9,20] 1 (uX m4094 x0 false)
def yO(p_l:List ByteArray):(Int×(List (ByteArray×Bool)))→Mo ((Int×(List (ByteArray×Bool)))⊕(Unit⊕Unit)):=fun(v0,m4094)=>
 .iB (decide ((v0:Int)<(p_l.length:Int))) (.gx lS_ p_l v0 fun x0 _=>
 .jk Tryz.f345 0 [1,1,0,1,0,0,1,1,0,0,1,0,0] 17 (fun r_=>⟨[(3,.mp 0),(5,.lf (.str x0)),(7,.lf (.rows 1 (p_l.map lfS))),(8,.i_ (p_l.length:Int)),(9,.i_ v0),(20,.b_ r_)],[.map Tryz.prog 9 4 (m4094.map mvB)]⟩) ⟨[(3,.mp 0),(5,.lf (.str x0)),(7,.lf (.rows 1 (p_l.map lfS))),(8,.i_ (p_l.length:Int)),(9,.i_ v0)],[.map Tryz.prog 9 4 (m4094.map mvB)]⟩ (LV m4094 p_l v0 x0) fun r0=>
 .iB (r0) (.ret ⟨[.kill 0],[2],[],1⟩ (.inr (.inl ())))<|
 .say [] (ok1 (rfl:Tryz.prog=Tryz.prog))<|
 .grd (m4094.length<maxLen) fun h0=>
 .say [] (ok1 (by simpa using h0:(m4094.map mvB).length<maxLen))<|
 .rt [3,7,8,9] 1 (.inl (IntKind.wrap .i64 (v0+1),(x0,true)::m4094)))<|
 .ret ⟨[.kill 0],[],[],1⟩ (.inr (.inr (())))
def atW(p_l:List ByteArray)(v0:Int)(m4094:List (ByteArray×Bool)):Option (Unit⊕Unit):=bV (fun v_=>(yO p_l v_).den) FU (v0,m4094)
def akY(p_l:List ByteArray):Mo (Bool):=
 .nu p_l lfS<|
 .l2 Tryz.f345 0 [1,1,0,1,0] 0 (fun(v0,m4094)=>⟨[(3,.mp 0),(7,.lf (.rows 1 (p_l.map lfS))),(8,.i_ (p_l.length:Int)),(9,.i_ v0)],[.map Tryz.prog 9 4 (m4094.map mvB)]⟩) .ret (fun _=>⟨[(2,.b_ false)],[.dead]⟩) (.exit 0) (fun _=>⟨[],[.dead]⟩) (yO p_l) (0,([]:List (ByteArray×Bool))) (fun o0=>
 .ret (aU 1) (false)) fun o1=>
 .ret (aU 1) (true)
def Q75(p_l:List ByteArray):Option (Bool):=Mo.den (akY p_l)
theorem atX(p_l:List ByteArray):FV (Q75 p_l) 345 [.lf (.rows 1 (p_l.map lfS))] .b_:=dw Tryz.func345
def adb(p_v:ah):Mo (Bool):=
 .sf Tryz.f346 0 [1,0] 0 8 1 [(1,.ptr 0 0),(2,.b_ false)] [aZ p_v] 10 (oW p_v) fun r0=>
 .sb Tryz.f346 0 [1,0] 8 5 1 [(1,.ptr 0 0),(2,.b_ false)] [aZ p_v] 10 15 r0 (oZ p_v r0) fun r1=>
 .sb Tryz.f346 0 [1,0] 13 6 1 [(1,.ptr 0 0),(2,.b_ false)] [aZ p_v] 15 21 r1 (mW p_v r1) fun r2=>
 .sk Tryz.f346 0 [1,0] 19 6 1 (fun r_=>⟨[(2,.b_ false),(27,.b_ r_)],[.dead]⟩) ⟨[(1,.ptr 0 0),(2,.b_ false),(21,.b_ r2)],[aZ p_v]⟩ (mX p_v r2) fun r3=>
 .sk Tryz.f346 0 [1,0] 25 1 1 (fun r_=>⟨[(2,.b_ r3)],[.dead]⟩) ⟨[(2,.b_ false),(27,.b_ r3)],[.dead]⟩ (dQ r3) fun r4=>
 .ret (aU 1) (r3)
def apH(p_v:ah):Option (Bool):=Mo.den (adb p_v)
theorem apI(p_v:ah):FV (apH p_v) 346 [.dat (ah.lf1 p_v)] .b_:=dw Tryz.func346
def ZQ(p_e:aQ):Mo (Bool):=
 .ite (decide ((p_e.fOp:Int)<1)) (fun c0=>
 .say [.jf (.q 0 (.q 1 (.q 2 (.q 3 (.q 4 (.q 5 (.q 6 (.q 7 (.q 8 (.q 9 (.q 10 (.q 12 (.q 13 (.q 14 (.l 11 (.l 15 (.q 16 (.q 17 .fin)))))))))))))))))) (some 15) [] [.gd 4003 true] [1,22] 1 [(1,.ptr 0 0),(22,.b_ true)] [dM p_e]] (okc c0 (ok1 (rf_ ⟨[(1,.ptr 0 0),(22,.b_ true)],[dM p_e]⟩)))<|
 .rt [1,22] 1 (true)) fun c0=>
 .say [] (ok1 c0)<|
 .ite (decide ((37:Int)<p_e.fOp)) (fun c1=>
 .say [.jf (.q 0 (.q 1 (.q 2 (.q 3 (.q 4 (.q 5 (.q 6 (.q 7 (.q 8 (.q 9 (.q 10 (.q 12 (.q 13 (.q 14 (.l 11 (.l 15 (.q 16 (.q 17 .fin)))))))))))))))))) (some 15) [] [.gd 4003 false,.gd 4008 true] [1,22] 1 [(1,.ptr 0 0),(22,.b_ true)] [dM p_e]] (okc c1 (ok1 (rf_ ⟨[(1,.ptr 0 0),(22,.b_ true)],[dM p_e]⟩)))<|
 .rt [1,22] 1 (true)) fun c1=>
 .say [] (okc c1 (ok1 (ln_ p_e.bC aQ.lf)))<|
 .ask (Q82 p_e.fOp) fun r0 h0=>
 .say [] (ok1 (akX _ _ h0))<|
 .ask (apE r0 (p_e.bC.length:Int)) fun r1 h1=>
 .say [.jf (.q 0 (.q 1 (.q 2 (.q 3 (.q 4 (.q 5 (.q 6 (.q 7 (.q 8 (.q 9 (.q 10 (.q 12 (.q 13 (.q 14 (.l 11 (.l 15 (.q 16 (.q 17 .fin)))))))))))))))))) (some 15) [] [.gd 4003 false,.gd 4008 false,.num p_e.bC.length,.res (.i_ r0),.res (.b_ r1)] [1,22] 1 [(1,.ptr 0 0),(22,.lf (.bool (!r1)))] [dM p_e]] (okc (apF _ _ _ h1) (ok1 (rf_ ⟨[(1,.ptr 0 0),(22,.lf (.bool (!r1)))],[dM p_e]⟩)))<|
 .rt [1,22] 1 (!r1)
def ZR(p_e:aQ):Mo (Bool):=
 .iG 8003 (p_e.fOp==34) (.nu p_e.bC aQ.lf<|
 .nu p_e.eu lfS<|
 .rt [1,34] 1 ((p_e.bC.length:Int) != (p_e.eu.length:Int)))<|
 .rt [1,34] 1 (false)
def RH(p_e:aQ):Mo (Bool):=
 .oV 12003 (p_e.fOp==2) [1,3] 1 (p_e.fOp==3)
def RI(p_e:aQ)(r0:Bool):Mo (Bool):=
 .iG 14003 (p_e.fOp==3) (.rt [1,3,4] 1 (true))<|
 .cl (akX p_e.fOp) fun r1 _=>
 .rt [1,3,4] 1 (r1==3)
def RJ(p_e:aQ)(r0:Bool)(r1:Bool):Mo (Bool):=
 .iG 16001 (r0) (.cl (Ee p_e.cO) fun r2 _=>
 .rt [1,3,4,58] 1 (!r2))<|
 .rt [1,3,4,58] 1 (false)
def RN(p_e:aQ)(r0:Bool)(r1:Bool)(r2:Bool):Mo (Bool):=
 .iG 16007 (r2) (.iG 16011 (p_e.fOp==2) (.rt [1,3,4,69] 1 (true))<|
 .nu p_e.cO lfS<|
 .rt [1,3,4,69] 1 (decide ((0:Int)<(p_e.cO.length:Int))))<|
 .rt [1,3,4,69] 1 (false)
def RP(p_e:aQ)(r0:Bool)(r1:Bool):Mo (Bool):=
 .iG 20001 (r1) (.cl (afW p_e.fName) fun r2 _=>
 .rt [1,3,4,76] 1 (!r2))<|
 .rt [1,3,4,76] 1 (false)
def RQ(p_e:aQ)(r0:Bool)(r1:Bool)(r2:Bool):Mo (Bool):=
 .iG 20007 (r2) (.rt [1,3,4,87] 1 (true))<|
 .iG 20011 (p_e.fOp==34) (.cl (atX p_e.eu) fun r3 _=>
 .rt [1,3,4,87] 1 (!r3))<|
 .rt [1,3,4,87] 1 (false)
def RS(p_e:aQ)(r0:Bool)(r1:Bool):Mo (Bool):=
 .iG 24003 (p_e.fOp==1) (.cl (o9 p_e.fArg) fun r2 _=>
 .rt [1,3,4,96] 1 (!r2))<|
 .rt [1,3,4,96] 1 (false)
def RU(p_e:aQ)(r0:Bool)(r1:Bool):Mo (Bool):=
 .iG 28002 (!r0) (.nu p_e.cO lfS<|
 .rt [1,4,104] 1 (decide ((0:Int)<(p_e.cO.length:Int))))<|
 .rt [1,4,104] 1 (false)
def RV(p_e:aQ)(r0:Bool)(r1:Bool):Mo (Bool):=
 .iG 28008 (r1) (.rt [1,113] 1 (true))<|
 .aV 28011 (!r0) [1,113] 1 (!decide ((p_e.fName:ByteArray)=(⟨#[]⟩:ByteArray)))
def RX(p_e:aQ)(r0:Bool):Mo (Bool):=
 .iG 28017 (r0) (.rt [1,124] 1 (true))<|
 .iG 28021 (p_e.fOp != 34) (.nu p_e.eu lfS<|
 .rt [1,124] 1 (decide ((0:Int)<(p_e.eu.length:Int))))<|
 .rt [1,124] 1 (false)
def RY(p_e:aQ):Mo (Bool):=
 .iG 32003 (p_e.fOp != 1) (.cl (apI p_e.fArg) fun r0 _=>
 .rt [1,133] 1 (!r0))<|
 .rt [1,133] 1 (false)
def RZ(p_e:aQ)(r0:Bool):Mo (Bool):=
 .iG 32009 (r0) (.ret ⟨[.kill 0],[138],[],1⟩ (true))<|
 .ret ⟨[.kill 0],[138],[],1⟩ (p_e.fN != 0)
def akZ(p_e:aQ):Mo (Int):=
 .jk Tryz.f339 0 [1,0,0] 9 (fun r_=>⟨[(1,.ptr 0 0),(22,.b_ r_)],[dM p_e]⟩) ⟨[(1,.ptr 0 0)],[dM p_e]⟩ (ZQ p_e) fun r0=>
 .iB (r0) (.ret (aU 1) (11))<|
 .jk Tryz.f339 0 [1,1,0,0] 13 (fun r_=>⟨[(1,.ptr 0 0),(34,.b_ r_)],[dM p_e]⟩) ⟨[(1,.ptr 0 0)],[dM p_e]⟩ (ZR p_e) fun r1=>
 .iB (r1) (.ret (aU 1) (11))<|
 .jk Tryz.f339 0 [1,1,1,0] 17 (fun r_=>⟨[(1,.ptr 0 0),(3,.b_ r_)],[dM p_e]⟩) ⟨[(1,.ptr 0 0)],[dM p_e]⟩ (RH p_e) fun r2=>
 .jk Tryz.f339 0 [1,1,1,1,0] 19 (fun r_=>⟨[(1,.ptr 0 0),(3,.b_ r2),(4,.b_ r_)],[dM p_e]⟩) ⟨[(1,.ptr 0 0),(3,.b_ r2)],[dM p_e]⟩ (RI p_e r2) fun r3=>
 .sf Tryz.f339 0 [1,1,1,1,1,0,0] 0 7 7 [(1,.ptr 0 0),(3,.b_ r2),(4,.b_ r3)] [dM p_e] 58 (RJ p_e r2 r3) fun r4=>
 .sb Tryz.f339 0 [1,1,1,1,1,0,0] 7 11 7 [(1,.ptr 0 0),(3,.b_ r2),(4,.b_ r3)] [dM p_e] 58 69 r4 (RN p_e r2 r3 r4) fun r5=>
 .iB (r5) (.ret (aU 1) (10))<|
 .sf Tryz.f339 0 [1,1,1,1,1,1,0,0] 0 7 9 [(1,.ptr 0 0),(3,.b_ r2),(4,.b_ r3)] [dM p_e] 76 (RP p_e r2 r3) fun r6=>
 .sb Tryz.f339 0 [1,1,1,1,1,1,0,0] 7 11 9 [(1,.ptr 0 0),(3,.b_ r2),(4,.b_ r3)] [dM p_e] 76 87 r6 (RQ p_e r2 r3 r6) fun r7=>
 .iB (r7) (.ret (aU 1) (9))<|
 .jk Tryz.f339 0 [1,1,1,1,1,1,1,0,0] 29 (fun r_=>⟨[(1,.ptr 0 0),(3,.b_ r2),(4,.b_ r3),(96,.b_ r_)],[dM p_e]⟩) ⟨[(1,.ptr 0 0),(3,.b_ r2),(4,.b_ r3)],[dM p_e]⟩ (RS p_e r2 r3) fun r8=>
 .iB (r8) (.ret (aU 1) (8))<|
 .sk Tryz.f339 0 [1,1,1,1,1,1,1,1,0,0] 0 8 13 (fun r_=>⟨[(1,.ptr 0 0),(4,.b_ r3),(104,.b_ r_)],[dM p_e]⟩) ⟨[(1,.ptr 0 0),(3,.b_ r2),(4,.b_ r3)],[dM p_e]⟩ (RU p_e r2 r3) fun r9=>
 .sk Tryz.f339 0 [1,1,1,1,1,1,1,1,0,0] 8 9 13 (fun r_=>⟨[(1,.ptr 0 0),(113,.b_ r_)],[dM p_e]⟩) ⟨[(1,.ptr 0 0),(4,.b_ r3),(104,.b_ r9)],[dM p_e]⟩ (RV p_e r3 r9) fun r10=>
 .sb Tryz.f339 0 [1,1,1,1,1,1,1,1,0,0] 17 11 13 [(1,.ptr 0 0)] [dM p_e] 113 124 r10 (RX p_e r10) fun r11=>
 .iB (r11) (.ret (aU 1) (4))<|
 .sf Tryz.f339 0 [1,1,1,1,1,1,1,1,1,0,0] 0 9 15 [(1,.ptr 0 0)] [dM p_e] 133 (RY p_e) fun r12=>
 .sk Tryz.f339 0 [1,1,1,1,1,1,1,1,1,0,0] 9 5 15 (fun r_=>⟨[(138,.b_ r_)],[.dead]⟩) ⟨[(1,.ptr 0 0),(133,.b_ r12)],[dM p_e]⟩ (RZ p_e r12) fun r13=>
 .iB (r13) (.ret (aU 1) (4))<|
 .ret (aU 1) (0)
def Q21(p_e:aQ):Option (Int):=Mo.den (akZ p_e)
theorem atY(p_e:aQ):FV (Q21 p_e) 339 [.dat (aQ.lf1 p_e)] .i_:=dw Tryz.func339
abbrev ade(m:aQ→Int→Int→Option (Int×Int)):Prop:=∀p_e p_level p_b0,FH (m p_e p_level p_b0) 336 [.dat (aQ.lf1 p_e),.i_ p_level,.ptr 0 0] [.box 3 (.dat [(.int .i64 p_b0)])] (fun r=>.i_ r.1) (fun r=>[.box 3 (.dat [(.int .i64 r.2)])])
structure RB9 where
 m1:(p_e:aQ)→(p_level:Int)→(p_b0:Int)→Option (Int×Int)
 ok1:ade m1
def En(R_:RB9)(p_b0:Int)(p_e:aQ)(p_level:Int):Mo (Bool):=
 .oV 4002 (decide ((16:Int)<p_level)) [1,2,3,18] 2 (p_b0==256)
def yP(R_:RB9)(p_e:aQ)(p_level:Int):(Int×Int)→Mo ((Int×Int)⊕(Int×Int)⊕(Int)):=fun(v0,v1)=>
 .iB (decide ((v0:Int)<(p_e.bC.length:Int))) (.gx aQ.aX p_e.bC v0 fun x0 _=>
 .say [.at_ 22 4,.tod 36] ok0<|
 .cH [0] (R_.ok1 x0 (IntKind.wrap .i64 (p_level+1)) v1) fun r0 _=>
 .iB (r0.1 != 0) (.rt [6] 2 (.inr (.inl (r0.1,r0.2))))<|
 .rt [1,2,30,31,32] 2 (.inl (IntKind.wrap .i64 (v0+1),r0.2)))<|
 .rt [] 2 (.inr (.inr (v1)))
def atZ(R_:RB9)(p_e:aQ)(p_level:Int)(v0:Int)(v1:Int):Option ((Int×Int)⊕(Int)):=bV (fun v_=>(yP R_ p_e p_level v_).den) FU (v0,v1)
def LW(R_:RB9)(p_e:aQ)(p_level:Int)(p_b0:Int):Mo (Int×Int):=
 .jk Tryz.f336 1 [1,0,0] 9 (fun r_=>⟨[(1,.i_ p_level),(2,.ptr 0 0),(3,.ptr 1 0),(18,.b_ r_)],[.box 3 (.dat [(.int .i64 p_b0)]),dM p_e]⟩) ⟨[(1,.i_ p_level),(2,.ptr 0 0),(3,.ptr 1 0)],[.box 3 (.dat [(.int .i64 p_b0)]),dM p_e]⟩ (En R_ p_b0 p_e p_level) fun r0=>
 .iB (r0) (.ret ⟨[.kill 1],[0],[],1⟩ (2,p_b0))<|
 .cl (atY p_e) fun r1 _=>
 .iB (r1 != 0) (.ret ⟨[.kill 1],[0],[],1⟩ (r1,IntKind.wrap .i64 (p_b0+1)))<|
 .nu p_e.bC aQ.lf<|
 .l2y [.kill 1] Tryz.f336 1 [1,1,1,1,0,1,0] 0 (fun(v0,v1)=>⟨[(1,.i_ p_level),(2,.ptr 0 0),(30,.lf (.rows 11 (p_e.bC.map aQ.lf))),(31,.i_ (p_e.bC.length:Int)),(32,.i_ v0)],[.box 3 (.dat [(.int .i64 v1)]),.dead]⟩) .ret (fun o_=>⟨[(6,.i_ o_.1)],[.box 3 (.dat [(.int .i64 o_.2)]),.dead]⟩) (.exit 0) (fun o_=>⟨[],[.box 3 (.dat [(.int .i64 o_)]),.dead]⟩) (yP R_ p_e p_level) (0,(IntKind.wrap .i64 (p_b0+1))) (fun o0=>
 .rt [0] 1 (o0.1,o0.2)) fun o1=>
 .rt [0] 1 (0,o1)
theorem apJ(R_:RB9):ade fun p_e p_level p_b0=>Mo.den (LW R_ p_e p_level p_b0):=fun _ _ _=>eP Tryz.func336
def yQ:Nat→RB9
 |0=>{ m1:=fun p_e p_level p_b0=>none,ok1:=fun _ _ _ _ h=>(by cases h) }
 |n_+1=>{ m1:=fun p_e p_level p_b0=>Mo.den (LW (yQ n_) p_e p_level p_b0),ok1:=apJ (yQ n_) }
def Q99(p_e:aQ)(p_level:Int)(p_b0:Int):Option (Int×Int):=(yQ FU).m1 p_e p_level p_b0
theorem at1:ade Q99:=(yQ FU).ok1
def adf(p_e:aQ):Mo (Int):=
 .cH [1] (at1 p_e 1 0) fun r0 _=>
 .ret (aU 1) (r0.1)
def apK(p_e:aQ):Option (Int):=Mo.den (adf p_e)
theorem apL(p_e:aQ):FV (apK p_e) 311 [.dat (aQ.lf1 p_e)] .i_:=dw Tryz.func311
def WI(p_inside:Bool)(p_p:aO):Mo (Bool):=
 .oV 4003 (decide ((p_p.fOp:Int)<1)) [1,2,15] 1 (decide ((24:Int)<p_p.fOp))
def WJ(p_inside:Bool)(p_p:aO)(r0:Bool):Mo (Bool):=
 .iG 4008 (r0) (.rt [1,2,24] 1 (true))<|
 .nu p_p.bC aO.lf<|
 .cl (apx p_p.fOp (p_p.bC.length:Int)) fun r1 _=>
 .rt [1,2,24] 1 (!r1)
def LX(p_inside:Bool)(p_p:aO):Mo (Bool):=
 .cl (ac5 p_p.fOp) fun r0 _=>
 .iG 8003 (r0) (.nu p_p.fArgs ah.lf<|
 .rt [1,2,33] 1 ((p_p.fArgs.length:Int)==0))<|
 .rt [1,2,33] 1 (false)
def LY(p_inside:Bool)(p_p:aO)(r0:Bool):Mo (Bool):=
 .iG 8009 (r0) (.rt [1,2,38] 1 (true))<|
 .cl (atT p_p) fun r1 _=>
 .rt [1,2,38] 1 (!r1)
def LZ(p_inside:Bool)(p_p:aO):Mo (Bool):=
 .cl (afT p_p.fOp) fun r0 _=>
 .iG 12003 (r0) (.cl (Ee p_p.cO) fun r1 _=>
 .rt [1,2,47] 1 (!r1))<|
 .rt [1,2,47] 1 (false)
def L6(p_inside:Bool)(p_p:aO)(r0:Bool):Mo (Bool):=
 .iG 12009 (r0) (.iG 12012 (!p_inside) (.rt [2,57] 1 (true))<|
 .nu p_p.cO lfS<|
 .rt [2,57] 1 (decide ((0:Int)<(p_p.cO.length:Int))))<|
 .rt [2,57] 1 (false)
def L8(p_p:aO):Mo (Bool):=
 .cl (afU p_p.fOp) fun r0 _=>
 .iG 16003 (r0) (.cl (o9 p_p.fArg) fun r1 _=>
 .rt [2,66] 1 (!r1))<|
 .rt [2,66] 1 (false)
def L9(p_p:aO)(r0:Bool):Mo (Bool):=
 .iG 16009 (r0) (.rt [2,77] 1 (true))<|
 .cl (Wx p_p.fOp) fun r1 _=>
 .aV 16013 (r1) [2,77] 1 (p_p.fArg.aF != 4)
def yR(p_p:aO):(Int)→Mo ((Int)⊕(Unit⊕Unit)):=fun(v0)=>
 .iB (decide ((v0:Int)<(p_p.fArgs.length:Int))) (.gx ah.aX p_p.fArgs v0 fun x0 _=>
 .cl (o9 x0) fun r0 _=>
 .iB (!r0) (.ret ⟨[.kill 0],[4],[],1⟩ (.inr (.inl ())))<|
 .rt [2,82,83,84] 1 (.inl (IntKind.wrap .i64 (v0+1))))<|
 .rt [2] 1 (.inr (.inr (())))
def adg(p_p:aO)(v0:Int):Option (Unit⊕Unit):=bV (fun v_=>(yR p_p v_).den) FU (v0)
def Mc(p_p:aO)(r0:Bool):Mo (Unit⊕Unit):=
 .iB (r0) (.nu p_p.fArgs ah.lf<|
 .l2m [] Tryz.f258 0 [1,1,1,1,1,0,1,0,1,0] 0 (fun(v0)=>⟨[(2,.ptr 0 0),(82,.lf (.rows 5 (p_p.fArgs.map ah.lf))),(83,.i_ (p_p.fArgs.length:Int)),(84,.i_ v0)],[dA p_p]⟩) .ret (fun _=>⟨[(4,.i_ 8)],[.dead]⟩) (.exit 0) (fun _=>⟨[(2,.ptr 0 0)],[dA p_p]⟩) (adg p_p 0) (yR p_p) (0) (fun o0=>
 .rt [4] 1 (.inl ())) fun o1=>
 .rt [2] 1 (.inr (())))<|
 .rt [2] 1 (.inr (()))
def Md(p_p:aO):Mo ((Int)⊕Unit):=
 .iB (p_p.fOp==18) (.cl (apA p_p.dI) fun r0 _=>
 .iB (r0 != 0) (.ret ⟨[.kill 0],[4],[],1⟩ (.inl (r0)))<|
 .rt [2] 1 (.inr (())))<|
 .rt [2] 1 (.inr (()))
def at6(p_p:aO)(p_inside:Bool):Mo (Int):=
 .sf Tryz.f258 0 [1,0,0] 0 8 1 [(1,.b_ p_inside),(2,.ptr 0 0)] [dA p_p] 15 (WI p_inside p_p) fun r0=>
 .sb Tryz.f258 0 [1,0,0] 8 9 1 [(1,.b_ p_inside),(2,.ptr 0 0)] [dA p_p] 15 24 r0 (WJ p_inside p_p r0) fun r1=>
 .iB (r1) (.ret (aU 1) (11))<|
 .sf Tryz.f258 0 [1,1,0,0] 0 9 3 [(1,.b_ p_inside),(2,.ptr 0 0)] [dA p_p] 33 (LX p_inside p_p) fun r2=>
 .sb Tryz.f258 0 [1,1,0,0] 9 5 3 [(1,.b_ p_inside),(2,.ptr 0 0)] [dA p_p] 33 38 r2 (LY p_inside p_p r2) fun r3=>
 .iB (r3) (.ret (aU 1) (11))<|
 .sf Tryz.f258 0 [1,1,1,0,0] 0 9 5 [(1,.b_ p_inside),(2,.ptr 0 0)] [dA p_p] 47 (LZ p_inside p_p) fun r4=>
 .sk Tryz.f258 0 [1,1,1,0,0] 9 10 5 (fun r_=>⟨[(2,.ptr 0 0),(57,.b_ r_)],[dA p_p]⟩) ⟨[(1,.b_ p_inside),(2,.ptr 0 0),(47,.b_ r4)],[dA p_p]⟩ (L6 p_inside p_p r4) fun r5=>
 .iB (r5) (.ret (aU 1) (10))<|
 .sf Tryz.f258 0 [1,1,1,1,0,0] 0 9 7 [(2,.ptr 0 0)] [dA p_p] 66 (L8 p_p) fun r6=>
 .sb Tryz.f258 0 [1,1,1,1,0,0] 9 11 7 [(2,.ptr 0 0)] [dA p_p] 66 77 r6 (L9 p_p r6) fun r7=>
 .iB (r7) (.ret (aU 1) (8))<|
 .cl (ac5 p_p.fOp) fun r8 _=>
 .j2 [] Tryz.f258 0 [1,1,1,1,1,0,1] 1 .ret (fun _=>⟨[(4,.i_ 8)],[.dead]⟩) .normal (fun _=>⟨[(2,.ptr 0 0)],[dA p_p]⟩) ⟨[(2,.ptr 0 0),(80,.b_ r8)],[dA p_p]⟩ (Mc p_p r8) (fun o0=>
 .ret (aU 1) (8)) fun o1=>
 .j2 [] Tryz.f258 0 [1,1,1,1,1,1,0,1] 1 .ret (fun o_=>⟨[(4,.i_ o_)],[.dead]⟩) .normal (fun _=>⟨[(2,.ptr 0 0)],[dA p_p]⟩) ⟨[(2,.ptr 0 0),(94,.lf (.bool (p_p.fOp==18)))],[dA p_p]⟩ (Md p_p) (fun o2=>
 .ret (aU 1) (o2)) fun o3=>
 .cl (atV p_p) fun r9 _=>
 .iB (!r9) (.ret (aU 1) (4))<|
 .iB (p_p.fOp==24) (.cl (apL p_p.fExpr) fun r10 _=>
 .ret (aU 1) (r10))<|
 .ret (aU 1) (0)
def Q7(p_p:aO)(p_inside:Bool):Option (Int):=Mo.den (at6 p_p p_inside)
theorem awo(p_p:aO)(p_inside:Bool):FV (Q7 p_p p_inside) 258 [.dat (aO.lf1 p_p),.b_ p_inside] .i_:=dw Tryz.func258
abbrev adh(m:aO→Bool→Option (Int)):Prop:=∀p_p p_inside,FV (m p_p p_inside) 186 [.dat (aO.lf1 p_p),.b_ p_inside] .i_
structure RB8 where
 m1:(p_p:aO)→(p_inside:Bool)→Option (Int)
 ok1:adh m1
def Me(R_:RB8)(p_inside:Bool)(p_p:aO)(v0:Int)(x0:aO):Mo (Int):=
 .iG 16002 (p_inside) (.cl (R_.ok1 x0 true) fun r0 _=>
 .ret ⟨[.kill 1],[1,2,8,16,17,18],[],2⟩ (r0))<|
 .cl (R_.ok1 x0 (p_p.fOp==15)) fun r1 _=>
 .ret ⟨[.kill 1],[1,2,8,16,17,18],[],2⟩ (r1)
def adi(R_:RB8)(p_inside:Bool)(p_p:aO)(v0:Int)(x0:aO):Option (Int):=Mo.den (Me R_ p_inside p_p v0 x0)
def yS(R_:RB8)(p_inside:Bool)(p_p:aO):(Int)→Mo ((Int)⊕(Int)⊕Unit):=fun(v0)=>
 .iB (decide ((v0:Int)<(p_p.bC.length:Int))) (.gx aO.aX p_p.bC v0 fun x0 _=>
 .jp Tryz.f186 0 [1,1,0,1,0,0,1,1,0,0,1,0] 21 [1,2,7,16,17,18] 2 (.normal) (fun r_=>⟨[(1,.b_ p_inside),(2,.ptr 0 0),(8,.i_ r_),(16,.lf (.rows 25 (p_p.bC.map aO.lf))),(17,.i_ (p_p.bC.length:Int)),(18,.i_ v0)],[dA p_p,.dead]⟩) ⟨[(1,.b_ p_inside),(2,.ptr 0 0),(7,.ptr 1 0),(16,.lf (.rows 25 (p_p.bC.map aO.lf))),(17,.i_ (p_p.bC.length:Int)),(18,.i_ v0)],[dA p_p,.box 43 (.agg ((aO.lf1 x0).map AV.lf))]⟩ (adi R_ p_inside p_p v0 x0) (jW (by kernel_rfl)) fun r0 _=>
 .iB (r0 != 0) (.ret ⟨[.kill 0],[4],[],1⟩ (.inr (.inl (r0))))<|
 .rt [1,2,16,17,18] 1 (.inl (IntKind.wrap .i64 (v0+1))))<|
 .ret ⟨[.kill 0],[],[],1⟩ (.inr (.inr (())))
def adk(R_:RB8)(p_inside:Bool)(p_p:aO)(v0:Int):Option ((Int)⊕Unit):=bV (fun v_=>(yS R_ p_inside p_p v_).den) FU (v0)
def ZT(R_:RB8)(p_p:aO)(p_inside:Bool):Mo (Int):=
 .cl (awo p_p p_inside) fun r0 _=>
 .iB (r0 != 0) (.ret (aU 1) (r0))<|
 .nu p_p.bC aO.lf<|
 .l2m [] Tryz.f186 0 [1,1,0,1,0] 0 (fun(v0)=>⟨[(1,.b_ p_inside),(2,.ptr 0 0),(16,.lf (.rows 25 (p_p.bC.map aO.lf))),(17,.i_ (p_p.bC.length:Int)),(18,.i_ v0)],[dA p_p]⟩) .ret (fun o_=>⟨[(4,.i_ o_)],[.dead]⟩) (.exit 0) (fun _=>⟨[],[.dead]⟩) (adk R_ p_inside p_p 0) (yS R_ p_inside p_p) (0) (fun o0=>
 .ret (aU 1) (o0)) fun o1=>
 .ret (aU 1) (0)
theorem apM(R_:RB8):adh fun p_p p_inside=>Mo.den (ZT R_ p_p p_inside):=fun _ _=>dw Tryz.func186
def oH:Nat→RB8
 |0=>{ m1:=fun p_p p_inside=>none,ok1:=fun _ _ _ h=>(by cases h) }
 |n_+1=>{ m1:=fun p_p p_inside=>Mo.den (ZT (oH n_) p_p p_inside),ok1:=apM (oH n_) }
def Q59(p_p:aO)(p_inside:Bool):Option (Int):=(oH FU).m1 p_p p_inside
theorem at7:adh Q59:=(oH FU).ok1
def adl(p_p:aO):Mo (Int):=
 .cH [1] (atS p_p 1 0) fun r0 _=>
 .iB (!r0.1) (.ret (aU 1) (2))<|
 .cl (at7 p_p false) fun r1 _=>
 .ret (aU 1) (r1)
def apN(p_p:aO):Option (Int):=Mo.den (adl p_p)
theorem apO(p_p:aO):FV (apN p_p) 118 [.dat (aO.lf1 p_p)] .i_:=dw Tryz.func118
def adn(p_v:ah):Mo (Bool):=
 .sf Tryz.f187 0 [1,0] 0 8 1 [(1,.ptr 0 0),(2,.b_ false)] [aZ p_v] 10 (oW p_v) fun r0=>
 .sb Tryz.f187 0 [1,0] 8 5 1 [(1,.ptr 0 0),(2,.b_ false)] [aZ p_v] 10 15 r0 (oZ p_v r0) fun r1=>
 .sb Tryz.f187 0 [1,0] 13 6 1 [(1,.ptr 0 0),(2,.b_ false)] [aZ p_v] 15 21 r1 (mW p_v r1) fun r2=>
 .sk Tryz.f187 0 [1,0] 19 6 1 (fun r_=>⟨[(2,.b_ false),(27,.b_ r_)],[.dead]⟩) ⟨[(1,.ptr 0 0),(2,.b_ false),(21,.b_ r2)],[aZ p_v]⟩ (mX p_v r2) fun r3=>
 .sk Tryz.f187 0 [1,0] 25 1 1 (fun r_=>⟨[(2,.b_ r3)],[.dead]⟩) ⟨[(2,.b_ false),(27,.b_ r3)],[.dead]⟩ (dQ r3) fun r4=>
 .ret (aU 1) (r3)
def apP(p_v:ah):Option (Bool):=Mo.den (adn p_v)
theorem afX(p_v:ah):FV (apP p_v) 187 [.dat (ah.lf1 p_v)] .b_:=dw Tryz.func187
end
end Go.Proofs.YtflpefkohpjjpaaGreatDoor
set_option linter.unusedSimpArgs false
set_option linter.unusedVariables false
namespace Go.Proofs.YtflpefkohpjjpaaGreatDoor
open Go.RowKit
set_option maxRecDepth 20000
set_option maxHeartbeats 4000000
noncomputable section
def MB(p_x:aQ)(r0:Bool):Mo (Bool):=
 .aC 4020 (r0) [1,2,27] 1 (afX p_x.fArg)
def ado(p_x:aQ):Mo (Bool):=
 .sf Tryz.f188 0 [1,0] 0 9 1 [(1,.ptr 0 0),(2,.b_ false)] [dM p_x] 11 (o7 p_x) fun r0=>
 .sb Tryz.f188 0 [1,0] 9 5 1 [(1,.ptr 0 0),(2,.b_ false)] [dM p_x] 11 16 r0 (o8 p_x r0) fun r1=>
 .sb Tryz.f188 0 [1,0] 14 6 1 [(1,.ptr 0 0),(2,.b_ false)] [dM p_x] 16 22 r1 (nK p_x r1) fun r2=>
 .sb Tryz.f188 0 [1,0] 20 5 1 [(1,.ptr 0 0),(2,.b_ false)] [dM p_x] 22 27 r2 (MB p_x r2) fun r3=>
 .sb Tryz.f188 0 [1,0] 25 5 1 [(1,.ptr 0 0),(2,.b_ false)] [dM p_x] 27 32 r3 (nN p_x r3) fun r4=>
 .sk Tryz.f188 0 [1,0] 30 6 1 (fun r_=>⟨[(2,.b_ false),(38,.b_ r_)],[.dead]⟩) ⟨[(1,.ptr 0 0),(2,.b_ false),(32,.b_ r4)],[dM p_x]⟩ (nO p_x r4) fun r5=>
 .sk Tryz.f188 0 [1,0] 36 1 1 (fun r_=>⟨[(2,.b_ r5)],[.dead]⟩) ⟨[(2,.b_ false),(38,.b_ r5)],[.dead]⟩ (dQ r5) fun r6=>
 .ret (aU 1) (r5)
def apQ(p_x:aQ):Option (Bool):=Mo.den (ado p_x)
theorem apR(p_x:aQ):FV (apQ p_x) 188 [.dat (aQ.lf1 p_x)] .b_:=dw Tryz.func188
def Si(p_p:aO)(r0:Bool):Mo (Bool):=
 .aC 4009 (r0) [1,2,16] 1 (afX p_p.fArg)
def MC(p_p:aO)(r0:Bool):Mo (Bool):=
 .aC 4049 (r0) [1,2,56] 1 (apR p_p.fExpr)
def adp(p_p:aO):Mo (Bool):=
 .sf Tryz.f119 0 [1,0] 0 9 1 [(1,.ptr 0 0),(2,.b_ false)] [dA p_p] 11 (uY p_p) fun r0=>
 .sb Tryz.f119 0 [1,0] 9 5 1 [(1,.ptr 0 0),(2,.b_ false)] [dA p_p] 11 16 r0 (Si p_p r0) fun r1=>
 .sb Tryz.f119 0 [1,0] 14 6 1 [(1,.ptr 0 0),(2,.b_ false)] [dA p_p] 16 22 r1 (Af p_p r1) fun r2=>
 .sb Tryz.f119 0 [1,0] 20 5 1 [(1,.ptr 0 0),(2,.b_ false)] [dA p_p] 22 27 r2 (Ag p_p r2) fun r3=>
 .sb Tryz.f119 0 [1,0] 25 5 1 [(1,.ptr 0 0),(2,.b_ false)] [dA p_p] 27 32 r3 (Ah p_p r3) fun r4=>
 .sb Tryz.f119 0 [1,0] 30 6 1 [(1,.ptr 0 0),(2,.b_ false)] [dA p_p] 32 38 r4 (Ai p_p r4) fun r5=>
 .sb Tryz.f119 0 [1,0] 36 7 1 [(1,.ptr 0 0),(2,.b_ false)] [dA p_p] 38 45 r5 (Aj p_p r5) fun r6=>
 .sb Tryz.f119 0 [1,0] 43 6 1 [(1,.ptr 0 0),(2,.b_ false)] [dA p_p] 45 51 r6 (Ak p_p r6) fun r7=>
 .sb Tryz.f119 0 [1,0] 49 5 1 [(1,.ptr 0 0),(2,.b_ false)] [dA p_p] 51 56 r7 (MC p_p r7) fun r8=>
 .sk Tryz.f119 0 [1,0] 54 6 1 (fun r_=>⟨[(2,.b_ false),(62,.b_ r_)],[.dead]⟩) ⟨[(1,.ptr 0 0),(2,.b_ false),(56,.b_ r8)],[dA p_p]⟩ (Am p_p r8) fun r9=>
 .sk Tryz.f119 0 [1,0] 60 1 1 (fun r_=>⟨[(2,.b_ r9)],[.dead]⟩) ⟨[(2,.b_ false),(62,.b_ r9)],[.dead]⟩ (dQ r9) fun r10=>
 .ret (aU 1) (r9)
def apS(p_p:aO):Option (Bool):=Mo.den (adp p_p)
theorem apT(p_p:aO):FV (apS p_p) 119 [.dat (aO.lf1 p_p)] .b_:=dw Tryz.func119
def G6(p_x:aS):Mo (Bool):=
 .oV 8003 (decide ((p_x.aF:Int)<1)) [1,16] 2 (decide ((3:Int)<p_x.aF))
def G7(p_x:aS):Mo (Bool):=
 .nu p_x.fA aY.lf<|
 .iG 18004 ((p_x.fA.length:Int)==0) (.rt [1,48] 2 (true))<|
 .iG 18008 (p_x.aF != 1) (.nu p_x.fA aY.lf<|
 .iG 18013 (decide ((1:Int)<(p_x.fA.length:Int))) (.rt [1,48] 2 (true))<|
 .gx aY.aX p_x.fA 0 fun x0 _=>
 .oV 18020 (x0.xW) [1,48] 2 (p_x.fC))<|
 .rt [1,48] 2 (false)
def adq(p_x:aS):Mo (Int):=
 .say [.at_ 4 3,.yg 1 ([p_x.fName].map lfS)] (ok1 (by simp[lfS]:[p_x.fName].map lfS=[(lfS p_x.fName)]))<|
 .cl (Ee [p_x.fName]) fun r0 _=>
 .iB (!r0) (.ret (aU 1) (9))<|
 .jk Tryz.f62 0 [1,1,0,0] 13 (fun r_=>⟨[(1,.ptr 0 0),(16,.b_ r_)],[nS p_x,.dead]⟩) ⟨[(1,.ptr 0 0)],[nS p_x,.dead]⟩ (G6 p_x) fun r1=>
 .iB (r1) (.ret (aU 1) (8))<|
 .cl (atP p_x.fA) fun r2 _=>
 .iB (r2 != 0) (.ret (aU 1) (r2))<|
 .jk Tryz.f62 0 [1,1,1,1,0,0] 23 (fun r_=>⟨[(1,.ptr 0 0),(48,.b_ r_)],[nS p_x,.dead]⟩) ⟨[(1,.ptr 0 0)],[nS p_x,.dead]⟩ (G7 p_x) fun r3=>
 .iB (r3) (.ret (aU 1) (11))<|
 .iB (p_x.iE) (.cl (apO p_x.bM) fun r4 _=>
 .ret (aU 1) (r4))<|
 .cl (apT p_x.bM) fun r5 _=>
 .iB (!r5) (.ret (aU 1) (4))<|
 .ret (aU 1) (0)
def ZU(p_x:aS):Option (Int):=Mo.den (adq p_x)
theorem afY(p_x:aS):FV (ZU p_x) 62 [.dat (aS.lf1 p_x)] .i_:=dw Tryz.func62
def adr(p_x:aS)(p_b0:ByteArray):Mo (Bool):=
 .ret ⟨[.kill 1],[0],[],1⟩ (decide ((p_x.fName:ByteArray)=(p_b0:ByteArray)))
def aua(p_x:aS)(p_b0:ByteArray):Option (Bool):=Mo.den (adr p_x p_b0)
theorem apU(p_x:aS)(p_b0:ByteArray):FH (aua p_x p_b0) 181 [.dat (aS.lf1 p_x),.ptr 0 0] [.box 9 (.dat [(.str p_b0)])] .b_ (fun _=>[.box 9 (.dat [(.str p_b0)])]):=eP Tryz.func181
def yT(p_b0:ByteArray)(p_s:List aS):(Int)→Mo ((Int)⊕(Int)⊕Unit):=fun(v0)=>
 .iB (decide ((v0:Int)<(p_s.length:Int))) (.gx aS.aX p_s v0 fun x0 _=>
 .cH [0] (apU x0 p_b0) fun r0 _=>
 .iB (r0) (.rt [4] 1 (.inr (.inl (v0))))<|
 .rt [0,1,7,8] 1 (.inl (IntKind.wrap .i64 (v0+1))))<|
 .rt [] 1 (.inr (.inr (())))
def ads(p_b0:ByteArray)(p_s:List aS)(v0:Int):Option ((Int)⊕Unit):=bV (fun v_=>(yT p_b0 p_s v_).den) FU (v0)
def ak0(p_s:List aS)(p_b0:ByteArray):Mo (Int):=
 .nu p_s aS.lf<|
 .l2m [] Tryz.f180 1 [1,0,1,0] 0 (fun(v0)=>⟨[(0,.lf (.rows 31 (p_s.map aS.lf))),(1,.clo 181 [.ptr 0 0]),(7,.i_ (p_s.length:Int)),(8,.i_ v0)],[.box 9 (.dat [(.str p_b0)])]⟩) .ret (fun o_=>⟨[(4,.i_ o_)],[.box 9 (.dat [(.str p_b0)])]⟩) (.exit 0) (fun _=>⟨[],[.box 9 (.dat [(.str p_b0)])]⟩) (ads p_b0 p_s 0) (yT p_b0 p_s) (0) (fun o0=>
 .rt [0] 1 (o0)) fun o1=>
 .rt [0] 1 ((-1))
def Q60(p_s:List aS)(p_b0:ByteArray):Option (Int):=Mo.den (ak0 p_s p_b0)
theorem aub(p_s:List aS)(p_b0:ByteArray):FH (Q60 p_s p_b0) 180 [.lf (.rows 31 (p_s.map aS.lf)),.clo 181 [.ptr 0 0]] [.box 9 (.dat [(.str p_b0)])] .i_ (fun _=>[.box 9 (.dat [(.str p_b0)])]):=eP Tryz.func180
def adt(p_l:List aS)(p_name:ByteArray):Mo (Int):=
 .cH [0] (aub p_l p_name) fun r0 _=>
 .ret (aU 1) (r0)
def ak1(p_l:List aS)(p_name:ByteArray):Option (Int):=Mo.den (adt p_l p_name)
theorem apV(p_l:List aS)(p_name:ByteArray):FV (ak1 p_l p_name) 114 [.lf (.rows 31 (p_l.map aS.lf)),.lf (.str p_name)] .i_:=dw Tryz.func114
def MF(p_s:ByteArray):(Int)→Mo ((Int)⊕(Unit⊕Unit)):=fun(v0)=>
 .iB (decide ((v0:Int)<(p_s.size:Int))) (.sf Tryz.f301 0 [1,1,0,1,0,0,1,1,0,0,1,0] 0 10 6 [(0,.lf (.str p_s)),(3,.i_ v0),(18,.i_ (p_s.size:Int)),(19,.i_ v0)] [] 31 (kY p_s v0) fun r0=>
 .sk Tryz.f301 0 [1,1,0,1,0,0,1,1,0,0,1,0] 10 6 6 (fun r_=>⟨[(0,.lf (.str p_s)),(18,.i_ (p_s.size:Int)),(19,.i_ v0),(37,.b_ r_)],[]⟩) ⟨[(0,.lf (.str p_s)),(3,.i_ v0),(18,.i_ (p_s.size:Int)),(19,.i_ v0),(31,.b_ r0)],[]⟩ (kZ p_s r0 v0) fun r1=>
 .iB (r1) (.rt [2] 0 (.inr (.inl ())))<|
 .rt [0,18,19] 0 (.inl (IntKind.wrap .i64 (v0+1))))<|
 .rt [] 0 (.inr (.inr (())))
def ak2(p_s:ByteArray):Mo (Bool):=
 .sf Tryz.f301 0 [1,0,0] 0 8 1 [(0,.lf (.str p_s))] [] 11 (kW p_s) fun r0=>
 .sb Tryz.f301 0 [1,0,0] 8 5 1 [(0,.lf (.str p_s))] [] 11 16 r0 (kX p_s r0) fun r1=>
 .iB (r1) (.ret (aU 1) (false))<|
 .l2 Tryz.f301 0 [1,1,0,1,0] 0 (fun(v0)=>⟨[(0,.lf (.str p_s)),(18,.i_ (p_s.size:Int)),(19,.i_ v0)],[]⟩) .ret (fun _=>⟨[(2,.b_ false)],[]⟩) (.exit 0) (fun _=>⟨[],[]⟩) (MF p_s) (0) (fun o0=>
 .ret (aU 1) (false)) fun o1=>
 .ret (aU 1) (true)
def apW(p_s:ByteArray):Option (Bool):=Mo.den (ak2 p_s)
theorem afZ(p_s:ByteArray):FV (apW p_s) 301 [.lf (.str p_s)] .b_:=dw Tryz.func301
def ZV(p_v:ah):Mo (Bool):=
 .aV 8003 (p_v.aF==0) [3,4,15] 1 (p_v.eF==0)
def ZW(p_v:ah)(r0:Bool):Mo (Bool):=
 .aV 8008 (r0) [3,4,20] 1 (decide ((p_v.fText:ByteArray)=(⟨#[]⟩:ByteArray)))
def Sj(p_v:ah)(r0:Bool):Mo (Bool):=
 .iG 8013 (r0) (.nu p_v.aT ah.lf<|
 .rt [3,4,26] 1 ((p_v.aT.length:Int)==0))<|
 .rt [3,4,26] 1 (false)
def Sl(p_v:ah)(r0:Bool):Mo (Bool):=
 .iG 8019 (r0) (.nu p_v.aW aJ.lf<|
 .ret ⟨[.kill 0],[4,32],[],1⟩ ((p_v.aW.length:Int)==0))<|
 .ret ⟨[.kill 0],[4,32],[],1⟩ (false)
def AU(r0:Bool):Mo (Unit):=
 .rt [4] 1 ()
def ak3(p_has:Bool)(p_v:ah):Mo (Bool):=
 .iB (p_has) (.cl (o9 p_v) fun r0 _=>
 .ret (aU 1) (r0))<|
 .sf Tryz.f302 0 [1,1,0] 0 8 3 [(3,.ptr 0 0),(4,.b_ false)] [aZ p_v] 15 (ZV p_v) fun r1=>
 .sb Tryz.f302 0 [1,1,0] 8 5 3 [(3,.ptr 0 0),(4,.b_ false)] [aZ p_v] 15 20 r1 (ZW p_v r1) fun r2=>
 .sb Tryz.f302 0 [1,1,0] 13 6 3 [(3,.ptr 0 0),(4,.b_ false)] [aZ p_v] 20 26 r2 (Sj p_v r2) fun r3=>
 .sk Tryz.f302 0 [1,1,0] 19 6 3 (fun r_=>⟨[(4,.b_ false),(32,.b_ r_)],[.dead]⟩) ⟨[(3,.ptr 0 0),(4,.b_ false),(26,.b_ r3)],[aZ p_v]⟩ (Sl p_v r3) fun r4=>
 .sk Tryz.f302 0 [1,1,0] 25 1 3 (fun r_=>⟨[(4,.b_ r4)],[.dead]⟩) ⟨[(4,.b_ false),(32,.b_ r4)],[.dead]⟩ (AU r4) fun r5=>
 .ret (aU 1) (r4)
def Q80(p_has:Bool)(p_v:ah):Option (Bool):=Mo.den (ak3 p_has p_v)
theorem ak4(p_has:Bool)(p_v:ah):FV (Q80 p_has p_v) 302 [.b_ p_has,.dat (ah.lf1 p_v)] .b_:=dw Tryz.func302
def WL(m4820:List (ByteArray×Bool))(p_s:aI)(v0:Int)(x0:ByteArray):Mo (Bool):=
 .cl (afZ x0) fun r0 _=>
 .iG 12003 (!r0) (.rt [1,3,5,13,14,15,26] 2 (true))<|
 .say [.row [.bool (uX m4820 x0 false)]] (okc (rfl:Tryz.prog=Tryz.prog) (ok1 (Gu _ _ _:oz (m4820.map mvB) x0 (.bool false)=(.bool (uX m4820 x0 false)))))<|
 .rt [1,3,5,13,14,15,26] 2 (uX m4820 x0 false)
def Eo(p_s:aI):(Int×(List (ByteArray×Bool)))→Mo ((Int×(List (ByteArray×Bool)))⊕(Unit⊕Unit)):=fun(v0,m4820)=>
 .iB (decide ((v0:Int)<(p_s.dW.length:Int))) (.gx lS_ p_s.dW v0 fun x0 _=>
 .jk Tryz.f256 0 [1,1,0,1,0,0,1,1,0,0,1,0,0] 17 (fun r_=>⟨[(1,.ptr 0 0),(3,.mp 1),(5,.lf (.str x0)),(13,.lf (.rows 1 (p_s.dW.map lfS))),(14,.i_ (p_s.dW.length:Int)),(15,.i_ v0),(26,.b_ r_)],[gy p_s,.map Tryz.prog 9 4 (m4820.map mvB)]⟩) ⟨[(1,.ptr 0 0),(3,.mp 1),(5,.lf (.str x0)),(13,.lf (.rows 1 (p_s.dW.map lfS))),(14,.i_ (p_s.dW.length:Int)),(15,.i_ v0)],[gy p_s,.map Tryz.prog 9 4 (m4820.map mvB)]⟩ (WL m4820 p_s v0 x0) fun r0=>
 .iB (r0) (.ret ⟨[.kill 0,.kill 1],[2],[],2⟩ (.inr (.inl ())))<|
 .say [] (ok1 (rfl:Tryz.prog=Tryz.prog))<|
 .grd (m4820.length<maxLen) fun h0=>
 .say [] (ok1 (by simpa using h0:(m4820.map mvB).length<maxLen))<|
 .rt [1,3,13,14,15] 2 (.inl (IntKind.wrap .i64 (v0+1),(x0,true)::m4820)))<|
 .ret ⟨[.kill 1],[1],[],2⟩ (.inr (.inr (())))
def ak5(p_s:aI)(v0:Int)(m4820:List (ByteArray×Bool)):Option (Unit⊕Unit):=bV (fun v_=>(Eo p_s v_).den) FU (v0,m4820)
def MG(m4894:List (ByteArray×Bool))(p_s:aI)(v0:Int)(x0:bH):Mo (Bool):=
 .cl (afZ x0.fName) fun r0 _=>
 .iG 28004 (!r0) (.rt [1,6,8,32,33,34,47] 4 (true))<|
 .say [.row [.bool (uX m4894 x0.fName false)]] (okc (rfl:Tryz.prog=Tryz.prog) (ok1 (Gu _ _ _:oz (m4894.map mvB) x0.fName (.bool false)=(.bool (uX m4894 x0.fName false)))))<|
 .rt [1,6,8,32,33,34,47] 4 (uX m4894 x0.fName false)
def yU(p_s:aI):(Int×(List (ByteArray×Bool)))→Mo ((Int×(List (ByteArray×Bool)))⊕(Unit⊕Unit)):=fun(v0,m4894)=>
 .iB (decide ((v0:Int)<(p_s.cZ.length:Int))) (.gx bH.aX p_s.cZ v0 fun x0 _=>
 .jk Tryz.f256 0 [1,1,1,1,0,1,0,0,1,1,0,0,1,0,0] 33 (fun r_=>⟨[(1,.ptr 0 0),(6,.mp 2),(8,.ptr 3 0),(32,.lf (.rows 22 (p_s.cZ.map bH.lf))),(33,.i_ (p_s.cZ.length:Int)),(34,.i_ v0),(47,.b_ r_)],[gy p_s,.dead,.map Tryz.prog 9 4 (m4894.map mvB),.box 224 (.agg ((bH.lf1 x0).map AV.lf))]⟩) ⟨[(1,.ptr 0 0),(6,.mp 2),(8,.ptr 3 0),(32,.lf (.rows 22 (p_s.cZ.map bH.lf))),(33,.i_ (p_s.cZ.length:Int)),(34,.i_ v0)],[gy p_s,.dead,.map Tryz.prog 9 4 (m4894.map mvB),.box 224 (.agg ((bH.lf1 x0).map AV.lf))]⟩ (MG m4894 p_s v0 x0) fun r0=>
 .iB (r0) (.ret ⟨[.kill 0,.kill 2],[2],[],3⟩ (.inr (.inl ())))<|
 .say [] (ok1 (rfl:Tryz.prog=Tryz.prog))<|
 .grd (m4894.length<maxLen) fun h0=>
 .say [] (ok1 (by simpa using h0:(m4894.map mvB).length<maxLen))<|
 .rt [1,6,32,33,34] 3 (.inl (IntKind.wrap .i64 (v0+1),(x0.fName,true)::m4894)))<|
 .ret ⟨[.kill 2],[1],[],3⟩ (.inr (.inr (())))
def adu(p_s:aI)(v0:Int)(m4894:List (ByteArray×Bool)):Option (Unit⊕Unit):=bV (fun v_=>(yU p_s v_).den) FU (v0,m4894)
def MH(p_s:aI):Mo (Bool):=
 .oV 36004 ((eU .andNot .i64 p_s.ig 4094) != 0) [1,60] 3 (decide ((p_s.jD:Int)<0))
def MI(p_s:aI)(r0:Bool):Mo (Bool):=
 .oV 36009 (r0) [1,65] 3 (decide ((p_s.jE:Int)<(-1)))
def MJ(p_s:aI)(r0:Bool):Mo (Bool):=
 .iG 36014 (r0) (.rt [1,71] 3 (true))<|
 .nu p_s.dV aI.lf<|
 .rt [1,71] 3 (decide ((1:Int)<(p_s.dV.length:Int)))
def MK(p_s:aI):Mo (Bool):=
 .cl (ak4 p_s.iO p_s.kP) fun r0 _=>
 .iG 40006 (!r0) (.rt [1,85] 3 (true))<|
 .cl (ak4 p_s.iP p_s.kQ) fun r1 _=>
 .rt [1,85] 3 (!r1)
def yV(p_s:aI):(Int)→Mo ((Int)⊕(Unit⊕Unit)):=fun(v0)=>
 .iB (decide ((v0:Int)<(p_s.gZ.length:Int))) (.gx ah.aX p_s.gZ v0 fun x0 _=>
 .cl (o9 x0) fun r0 _=>
 .iB (!r0) (.rt [2] 3 (.inr (.inl ())))<|
 .rt [87,88,89] 3 (.inl (IntKind.wrap .i64 (v0+1))))<|
 .rt [] 3 (.inr (.inr (())))
def adv(p_s:aI)(v0:Int):Option (Unit⊕Unit):=bV (fun v_=>(yV p_s v_).den) FU (v0)
def auc(p_s:aI):Mo (Int):=
 .nu p_s.dW lfS<|
 .l2m [] Tryz.f256 0 [1,1,0,1,0] 0 (fun(v0,m4820)=>⟨[(1,.ptr 0 0),(3,.mp 1),(13,.lf (.rows 1 (p_s.dW.map lfS))),(14,.i_ (p_s.dW.length:Int)),(15,.i_ v0)],[gy p_s,.map Tryz.prog 9 4 (m4820.map mvB)]⟩) .ret (fun _=>⟨[(2,.i_ 9)],[.dead,.dead]⟩) (.exit 0) (fun _=>⟨[(1,.ptr 0 0)],[gy p_s,.dead]⟩) (ak5 p_s 0 ([]:List (ByteArray×Bool))) (Eo p_s) (0,([]:List (ByteArray×Bool))) (fun o0=>
 .ret (aU 1) (9)) fun o1=>
 .nu p_s.cZ bH.lf<|
 .l2m [] Tryz.f256 0 [1,1,1,1,0,1,0] 0 (fun(v1,m4894)=>⟨[(1,.ptr 0 0),(6,.mp 2),(32,.lf (.rows 22 (p_s.cZ.map bH.lf))),(33,.i_ (p_s.cZ.length:Int)),(34,.i_ v1)],[gy p_s,.dead,.map Tryz.prog 9 4 (m4894.map mvB)]⟩) .ret (fun _=>⟨[(2,.i_ 9)],[.dead,.dead,.dead]⟩) (.exit 2) (fun _=>⟨[(1,.ptr 0 0)],[gy p_s,.dead,.dead]⟩) (adu p_s 0 ([]:List (ByteArray×Bool))) (yU p_s) (0,([]:List (ByteArray×Bool))) (fun o2=>
 .ret (aU 1) (9)) fun o3=>
 .sf Tryz.f256 0 [1,1,1,1,1,0,0] 0 9 17 [(1,.ptr 0 0)] [gy p_s,.dead,.dead] 60 (MH p_s) fun r0=>
 .sb Tryz.f256 0 [1,1,1,1,1,0,0] 9 5 17 [(1,.ptr 0 0)] [gy p_s,.dead,.dead] 60 65 r0 (MI p_s r0) fun r1=>
 .sb Tryz.f256 0 [1,1,1,1,1,0,0] 14 6 17 [(1,.ptr 0 0)] [gy p_s,.dead,.dead] 65 71 r1 (MJ p_s r1) fun r2=>
 .iB (r2) (.ret (aU 1) (1))<|
 .jk Tryz.f256 0 [1,1,1,1,1,1,0,0] 45 (fun r_=>⟨[(1,.ptr 0 0),(85,.b_ r_)],[gy p_s,.dead,.dead]⟩) ⟨[(1,.ptr 0 0)],[gy p_s,.dead,.dead]⟩ (MK p_s) fun r3=>
 .iB (r3) (.ret (aU 1) (8))<|
 .nu p_s.gZ ah.lf<|
 .l2m [.kill 0] Tryz.f256 0 [1,1,1,1,1,1,1,0,1,0] 0 (fun(v2)=>⟨[(87,.lf (.rows 5 (p_s.gZ.map ah.lf))),(88,.i_ (p_s.gZ.length:Int)),(89,.i_ v2)],[.dead,.dead,.dead]⟩) .ret (fun _=>⟨[(2,.i_ 8)],[.dead,.dead,.dead]⟩) (.exit 4) (fun _=>⟨[],[.dead,.dead,.dead]⟩) (adv p_s 0) (yV p_s) (0) (fun o4=>
 .ret (aU 1) (8)) fun o5=>
 .ret (aU 1) (0)
def Q9(p_s:aI):Option (Int):=Mo.den (auc p_s)
theorem awp(p_s:aI):FV (Q9 p_s) 256 [.dat (aI.lf1 p_s)] .i_:=dw Tryz.func256
abbrev WM(m:aI→Int→Int→Option (Int×Int)):Prop:=∀p_s p_level p_b0,FH (m p_s p_level p_b0) 182 [.dat (aI.lf1 p_s),.i_ p_level,.ptr 0 0] [.box 3 (.dat [(.int .i64 p_b0)])] (fun r=>.i_ r.1) (fun r=>[.box 3 (.dat [(.int .i64 r.2)])])
structure ZX where
 m1:(p_s:aI)→(p_level:Int)→(p_b0:Int)→Option (Int×Int)
 ok1:WM m1
def Ep(R_:ZX)(p_b0:Int)(p_level:Int)(p_s:aI):Mo (Bool):=
 .oV 4002 (decide ((16:Int)<p_level)) [1,2,3,21] 2 (p_b0==64)
def yX(R_:ZX)(p_level:Int)(p_s:aI):(Int×Int)→Mo ((Int×Int)⊕(Int×Int)⊕(Int)):=fun(v0,v1)=>
 .iB (decide ((v0:Int)<(p_s.cZ.length:Int))) (.gx bH.aX p_s.cZ v0 fun x0 _=>
 .say [.at_ 22 5,.tod 40] ok0<|
 .cH [0] (R_.ok1 x0.bn (IntKind.wrap .i64 (p_level+1)) v1) fun r0 _=>
 .iB (r0.1 != 0) (.ret ⟨[.kill 1],[6],[],2⟩ (.inr (.inl (r0.1,r0.2))))<|
 .rt [1,2,3,33,34,35] 2 (.inl (IntKind.wrap .i64 (v0+1),r0.2)))<|
 .rt [1,2,3] 2 (.inr (.inr (v1)))
def adw(R_:ZX)(p_level:Int)(p_s:aI)(v0:Int)(v1:Int):Option ((Int×Int)⊕(Int)):=bV (fun v_=>(yX R_ p_level p_s v_).den) FU (v0,v1)
def vG(R_:ZX)(p_level:Int)(p_s:aI):(Int×Int)→Mo ((Int×Int)⊕(Int×Int)⊕(Int)):=fun(v0,v1)=>
 .iB (decide ((v0:Int)<(p_s.dV.length:Int))) (.gx aI.aX p_s.dV v0 fun x0 _=>
 .say [.at_ 36 4,.tod 56] ok0<|
 .cH [0] (R_.ok1 x0 (IntKind.wrap .i64 (p_level+1)) v1) fun r0 _=>
 .iB (r0.1 != 0) (.rt [6] 2 (.inr (.inl (r0.1,r0.2))))<|
 .rt [1,2,50,51,52] 2 (.inl (IntKind.wrap .i64 (v0+1),r0.2)))<|
 .rt [] 2 (.inr (.inr (v1)))
def WO(R_:ZX)(p_level:Int)(p_s:aI)(v0:Int)(v1:Int):Option ((Int×Int)⊕(Int)):=bV (fun v_=>(vG R_ p_level p_s v_).den) FU (v0,v1)
def ML(R_:ZX)(p_s:aI)(p_level:Int)(p_b0:Int):Mo (Int×Int):=
 .jk Tryz.f182 1 [1,0,0] 9 (fun r_=>⟨[(1,.i_ p_level),(2,.ptr 0 0),(3,.ptr 1 0),(21,.b_ r_)],[.box 3 (.dat [(.int .i64 p_b0)]),gy p_s]⟩) ⟨[(1,.i_ p_level),(2,.ptr 0 0),(3,.ptr 1 0)],[.box 3 (.dat [(.int .i64 p_b0)]),gy p_s]⟩ (Ep R_ p_b0 p_level p_s) fun r0=>
 .iB (r0) (.ret ⟨[.kill 1],[0],[],1⟩ (2,p_b0))<|
 .cl (awp p_s) fun r1 _=>
 .iB (r1 != 0) (.ret ⟨[.kill 1],[0],[],1⟩ (r1,IntKind.wrap .i64 (p_b0+1)))<|
 .nu p_s.cZ bH.lf<|
 .l2m [] Tryz.f182 1 [1,1,1,1,0,1,0] 0 (fun(v0,v1)=>⟨[(1,.i_ p_level),(2,.ptr 0 0),(3,.ptr 1 0),(33,.lf (.rows 22 (p_s.cZ.map bH.lf))),(34,.i_ (p_s.cZ.length:Int)),(35,.i_ v0)],[.box 3 (.dat [(.int .i64 v1)]),gy p_s]⟩) .ret (fun o_=>⟨[(6,.i_ o_.1)],[.box 3 (.dat [(.int .i64 o_.2)]),.dead]⟩) (.exit 0) (fun o_=>⟨[(1,.i_ p_level),(2,.ptr 0 0),(3,.ptr 1 0)],[.box 3 (.dat [(.int .i64 o_)]),gy p_s]⟩) (adw R_ p_level p_s 0 (IntKind.wrap .i64 (p_b0+1))) (yX R_ p_level p_s) (0,(IntKind.wrap .i64 (p_b0+1))) (fun o0=>
 .rt [0] 1 (o0.1,o0.2)) fun o1=>
 .nu p_s.dV aI.lf<|
 .l2m [.kill 1] Tryz.f182 1 [1,1,1,1,1,0,1,0] 0 (fun(v2,v3)=>⟨[(1,.i_ p_level),(2,.ptr 0 0),(50,.lf (.rows 21 (p_s.dV.map aI.lf))),(51,.i_ (p_s.dV.length:Int)),(52,.i_ v2)],[.box 3 (.dat [(.int .i64 v3)]),.dead]⟩) .ret (fun o_=>⟨[(6,.i_ o_.1)],[.box 3 (.dat [(.int .i64 o_.2)]),.dead]⟩) (.exit 2) (fun o_=>⟨[],[.box 3 (.dat [(.int .i64 o_)]),.dead]⟩) (WO R_ p_level p_s 0 o1) (vG R_ p_level p_s) (0,o1) (fun o2=>
 .rt [0] 1 (o2.1,o2.2)) fun o3=>
 .rt [0] 1 (0,o3)
theorem apX(R_:ZX):WM fun p_s p_level p_b0=>Mo.den (ML R_ p_s p_level p_b0):=fun _ _ _=>eP Tryz.func182
def pq:Nat→ZX
 |0=>{ m1:=fun p_s p_level p_b0=>none,ok1:=fun _ _ _ _ h=>(by cases h) }
 |n_+1=>{ m1:=fun p_s p_level p_b0=>Mo.den (ML (pq n_) p_s p_level p_b0),ok1:=apX (pq n_) }
def Q52(p_s:aI)(p_level:Int)(p_b0:Int):Option (Int×Int):=(pq FU).m1 p_s p_level p_b0
theorem aud:WM Q52:=(pq FU).ok1
def adx(p_s:aI):Mo (Int):=
 .cH [1] (aud p_s 1 0) fun r0 _=>
 .ret (aU 1) (r0.1)
def apY(p_s:aI):Option (Int):=Mo.den (adx p_s)
theorem apZ(p_s:aI):FV (apY p_s) 115 [.dat (aI.lf1 p_s)] .i_:=dw Tryz.func115
def yY(p_d:bW):(Int)→Mo ((Int)⊕(Int)⊕Unit):=fun(v0)=>
 .iB (decide ((v0:Int)<(p_d.bJ.length:Int))) (.gx aS.aX p_d.bJ v0 fun x0 _=>
 .cl (afY x0) fun r0 _=>
 .iB (r0 != 0) (.ret ⟨[.kill 0],[2],[],1⟩ (.inr (.inl (r0))))<|
 .say [] (ok1 (by first|(simp[aS.aX];done)|exact KQ _ _ _:(p_d.bJ.take v0.toNat).map aS.lf=((p_d.bJ.map aS.lf).take v0.toNat).drop (0:Int).toNat))<|
 .grd ((0:Int)≤0∧0≤v0∧v0≤(p_d.bJ.length:Int)) fun h0=>
 .say [] (ok1 (by simpa using h0:(0:Int)≤0∧0≤v0∧v0≤((p_d.bJ.map aS.lf).length:Int)))<|
 .ask (ak1 (p_d.bJ.take v0.toNat) x0.fName) fun r1 h1=>
 .say [.jf (.q 0 (.q 1 (.q 2 (.q 3 (.q 4 (.q 5 (.l 6 (.q 7 .fin)))))))) (some 6) [] [.rows ((p_d.bJ.take v0.toNat).map aS.lf),.res (.i_ r1)] [1,15,16,17,34] 2 [(1,.ptr 0 0),(15,.lf (.rows 31 (p_d.bJ.map aS.lf))),(16,.i_ (p_d.bJ.length:Int)),(17,.i_ v0),(34,.lf (.bool (decide ((0:Int)≤r1))))] [oG p_d,.box 45 (.agg ((aS.lf1 x0).map AV.lf))]] (okc (apV _ _ _ h1) (ok1 (rf_ ⟨[(1,.ptr 0 0),(15,.lf (.rows 31 (p_d.bJ.map aS.lf))),(16,.i_ (p_d.bJ.length:Int)),(17,.i_ v0),(34,.lf (.bool (decide ((0:Int)≤r1))))],[oG p_d,.box 45 (.agg ((aS.lf1 x0).map AV.lf))]⟩)))<|
 .iB (decide ((0:Int)≤r1)) (.ret ⟨[.kill 0],[2],[],1⟩ (.inr (.inl (16))))<|
 .rt [1,15,16,17] 1 (.inl (IntKind.wrap .i64 (v0+1))))<|
 .rt [1] 1 (.inr (.inr (())))
def MN(p_d:bW)(v0:Int):Option ((Int)⊕Unit):=bV (fun v_=>(yY p_d v_).den) FU (v0)
def MO(p_d:bW):Mo (Bool):=
 .oV 30003 (decide ((p_d.jZ:Int)<0)) [1,43] 1 (decide ((2:Int)<p_d.jZ))
def G8(p_d:bW):Mo (Bool):=
 .aV 34003 (p_d.iI != 0) [1,51] 1 (p_d.iI != 1)
def ak6(p_d:bW):Mo (Int):=
 .cl (atI p_d.fName) fun r0 _=>
 .iB (!r0) (.ret (aU 1) (9))<|
 .nu p_d.bJ aS.lf<|
 .iB (decide ((16:Int)<(p_d.bJ.length:Int))) (.ret (aU 1) (2))<|
 .nu p_d.bJ aS.lf<|
 .l2m [] Tryz.f61 0 [1,1,1,0,1,0] 0 (fun(v0)=>⟨[(1,.ptr 0 0),(15,.lf (.rows 31 (p_d.bJ.map aS.lf))),(16,.i_ (p_d.bJ.length:Int)),(17,.i_ v0)],[oG p_d]⟩) .ret (fun o_=>⟨[(2,.i_ o_)],[.dead]⟩) (.exit 0) (fun _=>⟨[(1,.ptr 0 0)],[oG p_d]⟩) (MN p_d 0) (yY p_d) (0) (fun o0=>
 .ret (aU 1) (o0)) fun o1=>
 .jk Tryz.f61 0 [1,1,1,1,0,0] 35 (fun r_=>⟨[(1,.ptr 0 0),(43,.b_ r_)],[oG p_d]⟩) ⟨[(1,.ptr 0 0)],[oG p_d]⟩ (MO p_d) fun r1=>
 .iB (r1) (.ret (aU 1) (1))<|
 .jk Tryz.f61 0 [1,1,1,1,1,0,0] 39 (fun r_=>⟨[(1,.ptr 0 0),(51,.b_ r_)],[oG p_d]⟩) ⟨[(1,.ptr 0 0)],[oG p_d]⟩ (G8 p_d) fun r2=>
 .iB (r2) (.ret (aU 1) (1))<|
 .cl (apZ p_d.bn) fun r3 _=>
 .ret (aU 1) (r3)
def Q65(p_d:bW):Option (Int):=Mo.den (ak6 p_d)
theorem aue(p_d:bW):FV (Q65 p_d) 61 [.dat (bW.lf1 p_d)] .i_:=dw Tryz.func61
abbrev ady(m:aG→Int→Int→Option (Int)):Prop:=∀p_w p_least p_greatest,FV (m p_w p_least p_greatest) 30 [.dat (aG.lf1 p_w),.i_ p_least,.i_ p_greatest] .i_
structure RB1 where
 m1:(p_w:aG)→(p_least:Int)→(p_greatest:Int)→Option (Int)
 ok1:ady m1
def WQ(R_:RB1)(p_greatest:Int)(p_least:Int)(p_w:aG)(r0:aN):Mo (Bool):=
 .oV 6004 (decide ((p_w.aF:Int)<p_least)) [2,3,7,24] 2 (decide ((p_greatest:Int)<p_w.aF))
def WR(R_:RB1)(p_greatest:Int)(p_w:aG)(r0:aN)(r1:Bool):Mo (Bool):=
 .iG 6010 (r1) (.rt [2,3,7,29] 2 (true))<|
 .cl (atw p_w) fun r2 _=>
 .rt [2,3,7,29] 2 (!r2)
def MP(R_:RB1)(p_greatest:Int)(p_w:aG)(r0:aN)(r1:Bool):Mo (Bool):=
 .iG 6015 (r1) (.rt [2,3,7,39] 2 (true))<|
 .iG 6018 (r0.nI) (.nu p_w.bP aG.lf<|
 .rt [2,3,7,39] 2 ((p_w.bP.length:Int)==0))<|
 .rt [2,3,7,39] 2 (false)
def MQ(R_:RB1)(p_greatest:Int)(p_w:aG)(r0:aN):Mo (Bool):=
 .iG 14002 (r0.pK) (.cl (V7 p_w.fV) fun r1 _=>
 .rt [2,3,7,51] 2 (!r1))<|
 .rt [2,3,7,51] 2 (false)
def MR(R_:RB1)(p_greatest:Int)(p_w:aG)(r0:aN)(r1:Bool):Mo (Bool):=
 .iG 14008 (r1) (.rt [2,3,7,61] 2 (true))<|
 .iG 14011 (r0.Gm) (.cl (V7 p_w.mO) fun r2 _=>
 .rt [2,3,7,61] 2 (!r2))<|
 .rt [2,3,7,61] 2 (false)
def MS(R_:RB1)(p_greatest:Int)(p_w:aG)(r0:aN)(r1:Bool):Mo (Bool):=
 .iG 14018 (r1) (.rt [2,3,7,72] 2 (true))<|
 .iG 14021 (r0.jv) (.cl (V7 p_w.bf.fName) fun r2 _=>
 .rt [2,3,7,72] 2 (!r2))<|
 .rt [2,3,7,72] 2 (false)
def MV(R_:RB1)(p_greatest:Int)(p_w:aG)(r0:aN):Mo (Bool):=
 .iG 18002 (r0.pO) (.cl (apc p_w) fun r1 _=>
 .rt [2,3,7,79] 2 (!r1))<|
 .rt [2,3,7,79] 2 (false)
def MW(R_:RB1)(p_greatest:Int)(p_w:aG)(r0:aN)(r1:Bool):Mo (Bool):=
 .iG 18007 (r1) (.rt [2,3,7,89] 2 (true))<|
 .iG 18010 (r0.nJ) (.cl (aty p_w.dK) fun r2 _=>
 .rt [2,3,7,89] 2 (!r2))<|
 .rt [2,3,7,89] 2 (false)
def MX(R_:RB1)(p_greatest:Int)(p_w:aG)(r0:aN):Mo ((Int)⊕Unit):=
 .iB (r0.D5) (.cl (aps p_w) fun r1 _=>
 .iB (r1 != 0) (.ret ⟨[.kill 0],[6],[],2⟩ (.inl (r1)))<|
 .rt [2,3] 2 (.inr (())))<|
 .rt [2,3] 2 (.inr (()))
def MZ(R_:RB1)(p_greatest:Int)(p_w:aG):Mo ((Int)⊕(Int)):=
 .iB (p_w.aF==4) (.cl (aue p_w.dO) fun r0 _=>
 .ret ⟨[.kill 0],[6],[],2⟩ (.inl (r0)))<|
 .iB (p_w.aF==6) (.cl (afY p_w.bf) fun r1 _=>
 .ret ⟨[.kill 0],[6],[],2⟩ (.inl (r1)))<|
 .iB (p_w.aF==8) (.rt [2,3] 2 (.inr (7)))<|
 .iB (p_w.aF==9) (.rt [2,3] 2 (.inr (3)))<|
 .rt [2,3] 2 (.inr (p_greatest))
def rU(R_:RB1)(o0:Int)(p_w:aG):(Int)→Mo ((Int)⊕(Int)⊕Unit):=fun(v0)=>
 .iB (decide ((v0:Int)<(p_w.bP.length:Int))) (.gx aG.aX p_w.bP v0 fun x0 _=>
 .cl (R_.ok1 x0 2 o0) fun r0 _=>
 .iB (r0 != 0) (.rt [6] 2 (.inr (.inl (r0))))<|
 .rt [2,114,115,116] 2 (.inl (IntKind.wrap .i64 (v0+1))))<|
 .rt [] 2 (.inr (.inr (())))
def wX(R_:RB1)(o0:Int)(p_w:aG)(v0:Int):Option ((Int)⊕Unit):=bV (fun v_=>(rU R_ o0 p_w v_).den) FU (v0)
def adz(R_:RB1)(p_w:aG)(p_least:Int)(p_greatest:Int):Mo (Int):=
 .cl (afG p_w.aF) fun r0 _=>
 .sk Tryz.f30 0 [1,1,0,0] 0 10 2 (fun r_=>⟨[(2,.i_ p_greatest),(3,.ptr 0 0),(7,.ptr 1 0),(24,.b_ r_)],[dP p_w,.box 104 (.agg ((aN.lf1 r0).map AV.lf))]⟩) ⟨[(1,.i_ p_least),(2,.i_ p_greatest),(3,.ptr 0 0),(7,.ptr 1 0)],[dP p_w,.box 104 (.agg ((aN.lf1 r0).map AV.lf))]⟩ (WQ R_ p_greatest p_least p_w r0) fun r1=>
 .sb Tryz.f30 0 [1,1,0,0] 10 5 2 [(2,.i_ p_greatest),(3,.ptr 0 0),(7,.ptr 1 0)] [dP p_w,.box 104 (.agg ((aN.lf1 r0).map AV.lf))] 24 29 r1 (WR R_ p_greatest p_w r0 r1) fun r2=>
 .sb Tryz.f30 0 [1,1,0,0] 15 10 2 [(2,.i_ p_greatest),(3,.ptr 0 0),(7,.ptr 1 0)] [dP p_w,.box 104 (.agg ((aN.lf1 r0).map AV.lf))] 29 39 r2 (MP R_ p_greatest p_w r0 r2) fun r3=>
 .iB (r3) (.ret (aU 1) (11))<|
 .nu p_w.bP aG.lf<|
 .iB (decide ((256:Int)<(p_w.bP.length:Int))) (.ret (aU 1) (2))<|
 .sf Tryz.f30 0 [1,1,1,1,0,0] 0 8 6 [(2,.i_ p_greatest),(3,.ptr 0 0),(7,.ptr 1 0)] [dP p_w,.box 104 (.agg ((aN.lf1 r0).map AV.lf))] 51 (MQ R_ p_greatest p_w r0) fun r4=>
 .sb Tryz.f30 0 [1,1,1,1,0,0] 8 10 6 [(2,.i_ p_greatest),(3,.ptr 0 0),(7,.ptr 1 0)] [dP p_w,.box 104 (.agg ((aN.lf1 r0).map AV.lf))] 51 61 r4 (MR R_ p_greatest p_w r0 r4) fun r5=>
 .sb Tryz.f30 0 [1,1,1,1,0,0] 18 11 6 [(2,.i_ p_greatest),(3,.ptr 0 0),(7,.ptr 1 0)] [dP p_w,.box 104 (.agg ((aN.lf1 r0).map AV.lf))] 61 72 r5 (MS R_ p_greatest p_w r0 r5) fun r6=>
 .iB (r6) (.ret (aU 1) (9))<|
 .sf Tryz.f30 0 [1,1,1,1,1,0,0] 0 7 8 [(2,.i_ p_greatest),(3,.ptr 0 0),(7,.ptr 1 0)] [dP p_w,.box 104 (.agg ((aN.lf1 r0).map AV.lf))] 79 (MV R_ p_greatest p_w r0) fun r7=>
 .sb Tryz.f30 0 [1,1,1,1,1,0,0] 7 10 8 [(2,.i_ p_greatest),(3,.ptr 0 0),(7,.ptr 1 0)] [dP p_w,.box 104 (.agg ((aN.lf1 r0).map AV.lf))] 79 89 r7 (MW R_ p_greatest p_w r0 r7) fun r8=>
 .iB (r8) (.ret (aU 1) (1))<|
 .j2 [.kill 1] Tryz.f30 0 [1,1,1,1,1,1,0,1] 1 .ret (fun o_=>⟨[(6,.i_ o_)],[.dead,.dead]⟩) .normal (fun _=>⟨[(2,.i_ p_greatest),(3,.ptr 0 0)],[dP p_w,.dead]⟩) ⟨[(2,.i_ p_greatest),(3,.ptr 0 0),(91,.b_ r0.D5)],[dP p_w,.dead]⟩ (MX R_ p_greatest p_w r0) (fun o0=>
 .ret (aU 1) (o0)) fun o1=>
 .j2 [] Tryz.f30 0 [1,1,1,1,1,1,1,0,1] 6 .ret (fun o_=>⟨[(6,.i_ o_)],[.dead,.dead]⟩) .normal (fun o_=>⟨[(2,.i_ o_),(3,.ptr 0 0)],[dP p_w,.dead]⟩) ⟨[(2,.i_ p_greatest),(3,.ptr 0 0),(98,.i_ p_w.aF)],[dP p_w,.dead]⟩ (MZ R_ p_greatest p_w) (fun o2=>
 .ret (aU 1) (o2)) fun o3=>
 .nu p_w.bP aG.lf<|
 .l2m [.kill 0] Tryz.f30 0 [1,1,1,1,1,1,1,1,0,1,0] 0 (fun(v0)=>⟨[(2,.i_ o3),(114,.lf (.rows 78 (p_w.bP.map aG.lf))),(115,.i_ (p_w.bP.length:Int)),(116,.i_ v0)],[.dead,.dead]⟩) .ret (fun o_=>⟨[(6,.i_ o_)],[.dead,.dead]⟩) (.exit 1) (fun _=>⟨[],[.dead,.dead]⟩) (wX R_ o3 p_w 0) (rU R_ o3 p_w) (0) (fun o4=>
 .ret (aU 1) (o4)) fun o5=>
 .ret (aU 1) (0)
theorem auf(R_:RB1):ady fun p_w p_least p_greatest=>Mo.den (adz R_ p_w p_least p_greatest):=fun _ _ _=>dw Tryz.func30
def lV:Nat→RB1
 |0=>{ m1:=fun p_w p_least p_greatest=>none,ok1:=fun _ _ _ _ h=>(by cases h) }
 |n_+1=>{ m1:=fun p_w p_least p_greatest=>Mo.den (adz (lV n_) p_w p_least p_greatest),ok1:=auf (lV n_) }
def Q4(p_w:aG)(p_least:Int)(p_greatest:Int):Option (Int):=(lV FU).m1 p_w p_least p_greatest
theorem awq:ady Q4:=(lV FU).ok1
def Sm(p_e:bY):Mo (Bool):=
 .oV 8003 (decide ((p_e.dU:Int)<1)) [1,13] 1 (decide ((1099511627776:Int)<p_e.dU))
def Sr(p_e:bY)(r0:Bool):Mo (Bool):=
 .oV 8008 (r0) [1,18] 1 (decide ((p_e.oO:Int)<0))
def Na(p_e:bY):Mo (Bool):=
 .iG 12003 (!decide ((p_e.kH:ByteArray)=(⟨#[]⟩:ByteArray))) (.cl (V7 p_e.kH) fun r0 _=>
 .rt [1,27] 1 (!r0))<|
 .rt [1,27] 1 (false)
def adA(p_e:bY):Mo (Int):=
 .iB (decide ((p_e.rH:Int)<0)) (.ret (aU 1) (24))<|
 .sf Tryz.f11 0 [1,1,0,0] 0 8 3 [(1,.ptr 0 0)] [oU p_e] 13 (Sm p_e) fun r0=>
 .sb Tryz.f11 0 [1,1,0,0] 8 5 3 [(1,.ptr 0 0)] [oU p_e] 13 18 r0 (Sr p_e r0) fun r1=>
 .iB (r1) (.ret (aU 1) (1))<|
 .jk Tryz.f11 0 [1,1,1,0,0] 17 (fun r_=>⟨[(1,.ptr 0 0),(27,.b_ r_)],[oU p_e]⟩) ⟨[(1,.ptr 0 0)],[oU p_e]⟩ (Na p_e) fun r2=>
 .iB (r2) (.ret (aU 1) (9))<|
 .cl (awq p_e.dh 1 12) fun r3 _=>
 .ret (aU 1) (r3)
def ah3(p_e:bY):Option (Int):=Mo.den (adA p_e)
theorem JU(p_e:bY):FV (ah3 p_e) 11 [.dat (bY.lf1 p_e)] .i_:=dw Tryz.func11
def qA :(Int×(List Int))→Mo ((Int×(List Int))⊕(Int×(List Int))):=fun(v0,l0)=>
 .iB (decide ((128:Int)≤v0)) (.say [.rows ((l0++[eU .or .u8 (IntKind.wrap .u8 v0) 128]).map (lfK .u8))] (ok1 (by simp[lfI,lfK]:(l0++[eU .or .u8 (IntKind.wrap .u8 v0) 128]).map (lfK .u8)=(l0.map (lfK .u8))++[((lfK .u8) (eU .or .u8 (IntKind.wrap .u8 v0) 128))]))<|
 .grd ((l0.length+[eU .or .u8 (IntKind.wrap .u8 v0) 128].length)*1≤140737488355328) fun h0=>
 .say [] (okc (by simpa using h0:((l0.map (lfK .u8)).length+[((lfK .u8) (eU .or .u8 (IntKind.wrap .u8 v0) 128))].length)*1≤140737488355328) (ok1 (by decide:(0:Int)≤7)))<|
 .ret ⟨[],[0,5],[(2,0)],1⟩ (.inl (yh .u64 v0 7,l0++[eU .or .u8 (IntKind.wrap .u8 v0) 128])))<|
 .rt [0,5] 1 (.inr (v0,l0))
def WS(v0:Int)(l0:List Int):Option ((Int×(List Int))):=bV (fun v_=>(qA  v_).den) FU (v0,l0)
def ak7(p_n:Int):Mo (List Int):=
 .ask (ah0 p_n) fun r0 h0=>
 .say [.res (.lf (.int .u64 r0))] (okc (Wq _ _ h0) (ok1 (by simp[lfI,lfK]:(([]:List Int).map (lfK .u8))=[])))<|
 .l1m [.uw 0 5 1,.mF 0 (([]:List Int).map (lfK .u8))] Tryz.f131 0 [1,1,0,0] 0 (.exit 0) (fun(v0,l0)=>⟨[(0,.own 0),(5,.lf (.int .u64 v0))],[.row 5 1 (l0.map (lfK .u8))]⟩) (fun r_=>⟨[(0,.own 0),(5,.lf (.int .u64 r_.1))],[.row 5 1 (r_.2.map (lfK .u8))]⟩) (WS r0 ([]:List Int)) (qA ) (r0,([]:List Int)) fun r1=>
 .say [.rows ((r1.2++[IntKind.wrap .u8 r1.1]).map (lfK .u8))] (ok1 (by simp[lfI,lfK]:(r1.2++[IntKind.wrap .u8 r1.1]).map (lfK .u8)=(r1.2.map (lfK .u8))++[((lfK .u8) (IntKind.wrap .u8 r1.1))]))<|
 .grd ((r1.2.length+[IntKind.wrap .u8 r1.1].length)*1≤140737488355328) fun h1=>
 .say [] (ok1 (by simpa using h1:((r1.2.map (lfK .u8)).length+[((lfK .u8) (IntKind.wrap .u8 r1.1))].length)*1≤140737488355328))<|
 .ret ⟨[.kill 1,.mvn 2],[0],[(3,0)],1⟩ (r1.2++[IntKind.wrap .u8 r1.1])
def Q74(p_n:Int):Option (List Int):=Mo.den (ak7 p_n)
theorem aug(p_n:Int):FH (Q74 p_n) 131 [.raw (.slice none 0 0),.i_ p_n] [] (fun _=>.own 0) (fun r=>[.row 5 1 (r.map (lfK .u8))]):=eP Tryz.func131
def adB(p_n:Int):Mo (ByteArray):=
 .ask (Q74 p_n) fun r0 h0=>
 .say [.jm [] (.own 0) [.row 5 1 (r0.map (lfK .u8))],.nums r0] (okc (aug _ _ h0) (ok1 (by simp[lfI,lfK]:(r0.map (lfK .u8))=r0.map fun n=>[Lf.int .u8 n])))<|
 .ret (aU 1) (strOfNums r0)
def ZY(p_n:Int):Option (ByteArray):=Mo.den (adB p_n)
theorem af0(p_n:Int):FV (ZY p_n) 75 [.i_ p_n] (fun r=>.lf (.str r)):=dw Tryz.func75
def ar6(p_n:Int)(p_b0:aH):Mo (aH):=
 .ask (ZY p_n) fun r0 h0=>
 .say [.jf (.q 0 (.q 1 (.q 2 (.q 3 (.q 5 (.alt 4 (.l 6 (.l 7 (.q 8 (.q 9 (.l 10 .fin))))) (.l 6 (.l 4 (.l 7 (.q 8 (.q 9 (.l 10 .fin)))))))))))) (some 10) [1,2] [.both [.at_ 2 4,.resv 1,.res (.lf (.str r0)),.rows ((p_b0.bF++(numsOf (r0:ByteArray))).map (lfK .u8)),.slot 2] [.at_ 2 6,.resv 1,.res (.lf (.str r0)),.rows ((p_b0.bF++(numsOf (r0:ByteArray))).map (lfK .u8)),.slot 2]] [] 3 [] [.box 75 (.agg [.own 2,.b_ p_b0.dS]),.dead,.row 5 1 ((p_b0.bF++(numsOf (r0:ByteArray))).map (lfK .u8))]] (okc (af0 _ _ h0) (ok1 (by first|(rw[List.map_append,iq];done)|(rw[iq,List.nil_append];done)|simp[lfI,lfK,iq]:(p_b0.bF++(numsOf (r0:ByteArray))).map (lfK .u8)=(p_b0.bF.map (lfK .u8))++yt (r0:ByteArray))))<|
 .grd (p_b0.bF.length+(r0:ByteArray).size≤140737488355328) fun h1=>
 .say [] (okc (by simpa using h1:(p_b0.bF.map (lfK .u8)).length+(r0:ByteArray).size≤140737488355328) (okc (rf_ ⟨[],[.box 75 (.agg [.own 2,.b_ p_b0.dS]),.dead,.row 5 1 ((p_b0.bF++(numsOf (r0:ByteArray))).map (lfK .u8))]⟩) (okc (af0 _ _ h0) (okc (by first|(rw[List.map_append,iq];done)|(rw[iq,List.nil_append];done)|simp[lfI,lfK,iq]:(p_b0.bF++(numsOf (r0:ByteArray))).map (lfK .u8)=(p_b0.bF.map (lfK .u8))++yt (r0:ByteArray)) (okc (by simpa using h1:(p_b0.bF.map (lfK .u8)).length+(r0:ByteArray).size≤140737488355328) (ok1 (rf_ ⟨[],[.box 75 (.agg [.own 2,.b_ p_b0.dS]),.dead,.row 5 1 ((p_b0.bF++(numsOf (r0:ByteArray))).map (lfK .u8))]⟩)))))))<|
 .ret ⟨[.mvn 2],[],[(3,2)],3⟩ (aH.mk (p_b0.bF++(numsOf (r0:ByteArray))) p_b0.dS)
def Q18(p_n:Int)(p_b0:aH):Option (aH):=Mo.den (ar6 p_n p_b0)
theorem gY(p_n:Int)(p_b0:aH):FH (Q18 p_n p_b0) 34 [.ptr 0 0,.i_ p_n] [.box 75 (.agg [.own 1,.b_ p_b0.dS]),.row 5 1 (p_b0.bF.map (lfK .u8))] (fun _=>.tup []) (fun r=>[.box 75 (.agg [.own 2,.b_ r.dS]),.dead,.row 5 1 (r.bF.map (lfK .u8))]):=eP Tryz.func34
def ak8(p_s:ByteArray)(p_b0:aH):Mo (aH):=
 .ask (Q18 (p_s.size:Int) p_b0) fun r0 h0=>
 .say [.jm [0,1] (.tup []) [.box 75 (.agg [.own 2,.b_ r0.dS]),.dead,.row 5 1 (r0.bF.map (lfK .u8))],.rows ((r0.bF++(numsOf (p_s:ByteArray))).map (lfK .u8))] (okc (gY _ _ _ h0) (ok1 (by first|(rw[List.map_append,iq];done)|(rw[iq,List.nil_append];done)|simp[lfI,lfK,iq]:(r0.bF++(numsOf (p_s:ByteArray))).map (lfK .u8)=(r0.bF.map (lfK .u8))++yt (p_s:ByteArray))))<|
 .grd (r0.bF.length+(p_s:ByteArray).size≤140737488355328) fun h1=>
 .say [] (ok1 (by simpa using h1:(r0.bF.map (lfK .u8)).length+(p_s:ByteArray).size≤140737488355328))<|
 .ret ⟨[.mvn 3],[],[(4,2)],3⟩ (aH.mk (r0.bF++(numsOf (p_s:ByteArray))) r0.dS)
def ak9(p_s:ByteArray)(p_b0:aH):Option (aH):=Mo.den (ak8 p_s p_b0)
theorem tV(p_s:ByteArray)(p_b0:aH):FH (ak9 p_s p_b0) 35 [.ptr 0 0,.lf (.str p_s)] [.box 75 (.agg [.own 1,.b_ p_b0.dS]),.row 5 1 (p_b0.bF.map (lfK .u8))] (fun _=>.tup []) (fun r=>[.box 75 (.agg [.own 2,.b_ r.dS]),.dead,.row 5 1 (r.bF.map (lfK .u8))]):=eP Tryz.func35
def ala(p_b:Bool)(p_b0:aH):Mo (aH):=
 .iB (p_b) (.say [.rows ((p_b0.bF++[(1:Int)]).map (lfK .u8))] (ok1 (by simp[lfI,lfK]:(p_b0.bF++[(1:Int)]).map (lfK .u8)=(p_b0.bF.map (lfK .u8))++[((lfK .u8) (1:Int))]))<|
 .grd ((p_b0.bF.length+[(1:Int)].length)*1≤140737488355328) fun h0=>
 .say [] (ok1 (by simpa using h0:((p_b0.bF.map (lfK .u8)).length+[((lfK .u8) (1:Int))].length)*1≤140737488355328))<|
 .ret ⟨[.kill 2,.mvn 3],[],[(4,2)],3⟩ (aH.mk (p_b0.bF++[(1:Int)]) p_b0.dS))<|
 .say [.rows ((p_b0.bF++[(0:Int)]).map (lfK .u8))] (ok1 (by simp[lfI,lfK]:(p_b0.bF++[(0:Int)]).map (lfK .u8)=(p_b0.bF.map (lfK .u8))++[((lfK .u8) (0:Int))]))<|
 .grd ((p_b0.bF.length+[(0:Int)].length)*1≤140737488355328) fun h1=>
 .say [] (ok1 (by simpa using h1:((p_b0.bF.map (lfK .u8)).length+[((lfK .u8) (0:Int))].length)*1≤140737488355328))<|
 .ret ⟨[.kill 2,.mvn 3],[],[(4,2)],3⟩ (aH.mk (p_b0.bF++[(0:Int)]) p_b0.dS)
def Q89(p_b:Bool)(p_b0:aH):Option (aH):=Mo.den (ala p_b p_b0)
theorem rV(p_b:Bool)(p_b0:aH):FH (Q89 p_b p_b0) 82 [.ptr 0 0,.b_ p_b] [.box 75 (.agg [.own 1,.b_ p_b0.dS]),.row 5 1 (p_b0.bF.map (lfK .u8))] (fun _=>.tup []) (fun r=>[.box 75 (.agg [.own 2,.b_ r.dS]),.dead,.row 5 1 (r.bF.map (lfK .u8))]):=eP Tryz.func82
def yZ :(Int×(List Int))→Mo ((Int×(List Int))⊕(Int×(List Int))):=fun(v0,l0)=>
 .iB (decide ((128:Int)≤v0)) (.say [.rows ((l0++[eU .or .u8 (IntKind.wrap .u8 v0) 128]).map (lfK .u8))] (ok1 (by simp[lfI,lfK]:(l0++[eU .or .u8 (IntKind.wrap .u8 v0) 128]).map (lfK .u8)=(l0.map (lfK .u8))++[((lfK .u8) (eU .or .u8 (IntKind.wrap .u8 v0) 128))]))<|
 .grd ((l0.length+[eU .or .u8 (IntKind.wrap .u8 v0) 128].length)*1≤140737488355328) fun h0=>
 .say [] (okc (by simpa using h0:((l0.map (lfK .u8)).length+[((lfK .u8) (eU .or .u8 (IntKind.wrap .u8 v0) 128))].length)*1≤140737488355328) (ok1 (by decide:(0:Int)≤7)))<|
 .ret ⟨[],[0,5],[(3,1)],2⟩ (.inl (yh .u64 v0 7,l0++[eU .or .u8 (IntKind.wrap .u8 v0) 128])))<|
 .rt [0,5] 2 (.inr (v0,l0))
def adC(v0:Int)(l0:List Int):Option ((Int×(List Int))):=bV (fun v_=>(yZ  v_).den) FU (v0,l0)
def alb(p_n:Int)(p_s0:List Int):Mo (List Int):=
 .cl (Wq p_n) fun r0 _=>
 .l1m [.mvn 0] Tryz.f131 1 [1,1,0,0] 0 (.exit 0) (fun(v0,l0)=>⟨[(0,.own 1),(5,.lf (.int .u64 v0))],[.dead,.row 5 1 (l0.map (lfK .u8))]⟩) (fun r_=>⟨[(0,.own 1),(5,.lf (.int .u64 r_.1))],[.dead,.row 5 1 (r_.2.map (lfK .u8))]⟩) (adC r0 p_s0) (yZ ) (r0,p_s0) fun r1=>
 .say [.rows ((r1.2++[IntKind.wrap .u8 r1.1]).map (lfK .u8))] (ok1 (by simp[lfI,lfK]:(r1.2++[IntKind.wrap .u8 r1.1]).map (lfK .u8)=(r1.2.map (lfK .u8))++[((lfK .u8) (IntKind.wrap .u8 r1.1))]))<|
 .grd ((r1.2.length+[IntKind.wrap .u8 r1.1].length)*1≤140737488355328) fun h0=>
 .say [] (ok1 (by simpa using h0:((r1.2.map (lfK .u8)).length+[((lfK .u8) (IntKind.wrap .u8 r1.1))].length)*1≤140737488355328))<|
 .ret ⟨[.kill 2,.mvn 3],[0],[(4,1)],2⟩ (r1.2++[IntKind.wrap .u8 r1.1])
def Q53(p_n:Int)(p_s0:List Int):Option (List Int):=Mo.den (alb p_n p_s0)
theorem CZ(p_n:Int)(p_s0:List Int):FH (Q53 p_n p_s0) 131 [.own 0,.i_ p_n] [.row 5 1 (p_s0.map (lfK .u8))] (fun _=>.own 1) (fun r=>[.dead,.row 5 1 (r.map (lfK .u8))]):=eP Tryz.func131
def adD(p_s:ByteArray)(p_s0:List Int):Mo (List Int):=
 .ask (Q53 (p_s.size:Int) p_s0) fun r0 h0=>
 .say [.jm [0] (.own 1) [.dead,.row 5 1 (r0.map (lfK .u8))],.rows ((r0++(numsOf (p_s:ByteArray))).map (lfK .u8))] (okc (CZ _ _ _ h0) (ok1 (by first|(rw[List.map_append,iq];done)|(rw[iq,List.nil_append];done)|simp[lfI,lfK,iq]:(r0++(numsOf (p_s:ByteArray))).map (lfK .u8)=(r0.map (lfK .u8))++yt (p_s:ByteArray))))<|
 .grd (r0.length+(p_s:ByteArray).size≤140737488355328) fun h1=>
 .say [] (ok1 (by simpa using h1:(r0.map (lfK .u8)).length+(p_s:ByteArray).size≤140737488355328))<|
 .ret ⟨[.mvn 2],[0],[(3,1)],2⟩ (r0++(numsOf (p_s:ByteArray)))
def Z4(p_s:ByteArray)(p_s0:List Int):Option (List Int):=Mo.den (adD p_s p_s0)
theorem JV(p_s:ByteArray)(p_s0:List Int):FH (Z4 p_s p_s0) 278 [.own 0,.lf (.str p_s)] [.row 5 1 (p_s0.map (lfK .u8))] (fun _=>.own 1) (fun r=>[.dead,.row 5 1 (r.map (lfK .u8))]):=eP Tryz.func278
abbrev WT(m:ah→Option (List Int)):Prop:=∀p_v,FH (m p_v) 206 [.raw (.slice none 0 0),.dat (ah.lf1 p_v)] [] (fun _=>.own 0) (fun r=>[.row 5 1 (r.map (lfK .u8))])
abbrev af2(m:ah→(List Int)→Option (List Int)):Prop:=∀p_v p_s0,FH (m p_v p_s0) 206 [.own 0,.dat (ah.lf1 p_v)] [.row 5 1 (p_s0.map (lfK .u8))] (fun _=>.own 1) (fun r=>[.dead,.row 5 1 (r.map (lfK .u8))])
structure rW where
 m1:(p_v:ah)→Option (List Int)
 ok1:WT m1
 m2:(p_v:ah)→(p_s0:List Int)→Option (List Int)
 ok2:af2 m2
def Nb(R_:rW)(p_v:ah):Mo (Bool):=
 .iB (p_v.aF==3) (.rt [0,3,16,17] 3 (p_v.aF==3))<|
 .rt [0,3,16,17] 3 (p_v.aF==10)
def Nc(R_:rW)(p_v:ah):Mo (Bool):=
 .iB (p_v.aF==4) (.rt [0,3,16,32] 3 (p_v.aF==4))<|
 .rt [0,3,16,32] 3 (p_v.aF==7)
def ru(R_:rW)(p_v:ah):(Int×(List Int))→Mo ((Int×(List Int))⊕((List Int))):=fun(v0,l0)=>
 .iB (decide ((v0:Int)<(p_v.aT.length:Int))) (.gx ah.aX p_v.aT v0 fun x0 _=>
 .say [.at_ 38 2,.tod 60] ok0<|
 .cH [3] (R_.ok2 x0 l0) fun r0 _=>
 .ret ⟨[],[0,53,54,55],[(5,3)],4⟩ (.inl (IntKind.wrap .i64 (v0+1),r0)))<|
 .rt [0] 4 (.inr (l0))
def af4(R_:rW)(p_v:ah)(v0:Int)(l0:List Int):Option (((List Int))):=bV (fun v_=>(ru R_ p_v v_).den) FU (v0,l0)
def rC(R_:rW)(p_v:ah):(Int×(List Int))→Mo ((Int×(List Int))⊕((List Int))):=fun(v0,l0)=>
 .iB (decide ((v0:Int)<(p_v.aW.length:Int))) (.gx aJ.aX p_v.aW v0 fun x0 _=>
 .ask (Z4 x0.fName l0) fun r0 h0=>
 .say [] (ok1 (JV _ _ _ h0))<|
 .ask (R_.m2 x0.fValue r0) fun r1 h1=>
 .say [.jf (.q 0 (.q 1 (.q 2 (.q 4 (.q 5 (.l 3 (.l 6 (.q 7 .fin)))))))) (some 6) [3] [.jm [3] (.own 1) [.dead,.row 5 1 (r0.map (lfK .u8))],.at_ 52 6,.tod 82,.jm [5] (.own 1) [.dead,.row 5 1 (r1.map (lfK .u8))]] [0,71,72,73] 7 [(0,.own 6),(71,.lf (.rows 6 (p_v.aW.map aJ.lf))),(72,.i_ (p_v.aW.length:Int)),(73,.i_ v0)] [.dead,.dead,.dead,.dead,.box 115 (.agg ((aJ.lf1 x0).map AV.lf)),.dead,.row 5 1 (r1.map (lfK .u8))]] (okc (R_.ok2 _ _ _ h1) (ok1 (rf_ ⟨[(0,.own 6),(71,.lf (.rows 6 (p_v.aW.map aJ.lf))),(72,.i_ (p_v.aW.length:Int)),(73,.i_ v0)],[.dead,.dead,.dead,.dead,.box 115 (.agg ((aJ.lf1 x0).map AV.lf)),.dead,.row 5 1 (r1.map (lfK .u8))]⟩)))<|
 .ret ⟨[],[0,71,72,73],[(6,3)],4⟩ (.inl (IntKind.wrap .i64 (v0+1),r1)))<|
 .rt [0] 4 (.inr (l0))
def af5(R_:rW)(p_v:ah)(v0:Int)(l0:List Int):Option (((List Int))):=bV (fun v_=>(rC R_ p_v v_).den) FU (v0,l0)
def G9(R_:rW)(p_v:ah):Mo (((List Int))):=
 .jk Tryz.f206 0 [1,1,0,1,0,0,1] 1 (fun r_=>⟨[(0,.own 2),(3,.ptr 0 0),(16,.i_ p_v.aF),(17,.b_ r_)],[aZ p_v,.dead,.row 5 1 ([IntKind.wrap .u8 p_v.aF].map (lfK .u8))]⟩) ⟨[(0,.own 2),(3,.ptr 0 0),(16,.i_ p_v.aF),(17,.lf (.bool (p_v.aF==3)))],[aZ p_v,.dead,.row 5 1 ([IntKind.wrap .u8 p_v.aF].map (lfK .u8))]⟩ (Nb R_ p_v) fun r0=>
 .iB (r0) (.cH [2] (CZ p_v.eF [IntKind.wrap .u8 p_v.aF]) fun r1 _=>
 .ret ⟨[.kill 0],[0],[(3,2)],3⟩ (r1))<|
 .iB (p_v.aF==9) (.say [.rows (([IntKind.wrap .u8 p_v.aF]++[IntKind.wrap .u8 p_v.eF]).map (lfK .u8))] (ok1 (by simp[lfI,lfK]:([IntKind.wrap .u8 p_v.aF]++[IntKind.wrap .u8 p_v.eF]).map (lfK .u8)=([IntKind.wrap .u8 p_v.aF].map (lfK .u8))++[((lfK .u8) (IntKind.wrap .u8 p_v.eF))]))<|
 .grd (([IntKind.wrap .u8 p_v.aF].length+[IntKind.wrap .u8 p_v.eF].length)*1≤140737488355328) fun h0=>
 .say [] (ok1 (by first|(simp;done)|simpa using h0:(([IntKind.wrap .u8 p_v.aF].map (lfK .u8)).length+[((lfK .u8) (IntKind.wrap .u8 p_v.eF))].length)*1≤140737488355328))<|
 .ret ⟨[.kill 0],[0],[(4,2)],3⟩ ([IntKind.wrap .u8 p_v.aF]++[IntKind.wrap .u8 p_v.eF]))<|
 .jk Tryz.f206 0 [1,1,0,1,0,1,1,1,1,0,1] 1 (fun r_=>⟨[(0,.own 2),(3,.ptr 0 0),(16,.i_ p_v.aF),(32,.b_ r_)],[aZ p_v,.dead,.row 5 1 ([IntKind.wrap .u8 p_v.aF].map (lfK .u8))]⟩) ⟨[(0,.own 2),(3,.ptr 0 0),(16,.i_ p_v.aF),(32,.lf (.bool (p_v.aF==4)))],[aZ p_v,.dead,.row 5 1 ([IntKind.wrap .u8 p_v.aF].map (lfK .u8))]⟩ (Nc R_ p_v) fun r2=>
 .iB (r2) (.cH [2] (JV p_v.fText [IntKind.wrap .u8 p_v.aF]) fun r3 _=>
 .ret ⟨[.kill 0],[0],[(3,2)],3⟩ (r3))<|
 .iB (p_v.aF==8) (.say [.rows (([IntKind.wrap .u8 p_v.aF]++(numsOf (p_v.fText:ByteArray))).map (lfK .u8))] (ok1 (by first|(rw[List.map_append,iq];done)|(rw[iq,List.nil_append];done)|simp[lfI,lfK,iq]:([IntKind.wrap .u8 p_v.aF]++(numsOf (p_v.fText:ByteArray))).map (lfK .u8)=([IntKind.wrap .u8 p_v.aF].map (lfK .u8))++yt (p_v.fText:ByteArray)))<|
 .grd ([IntKind.wrap .u8 p_v.aF].length+(p_v.fText:ByteArray).size≤140737488355328) fun h1=>
 .say [] (ok1 (by simpa using h1:([IntKind.wrap .u8 p_v.aF].map (lfK .u8)).length+(p_v.fText:ByteArray).size≤140737488355328))<|
 .ret ⟨[.kill 0],[0],[(3,2)],3⟩ ([IntKind.wrap .u8 p_v.aF]++(numsOf (p_v.fText:ByteArray))))<|
 .iB (p_v.aF==6) (.nu p_v.aT ah.lf<|
 .ask (Q53 (p_v.aT.length:Int) [IntKind.wrap .u8 p_v.aF]) fun r4 h2=>
 .say [.jm [2] (.own 1) [.dead,.row 5 1 (r4.map (lfK .u8))],.num p_v.aT.length] (okc (CZ _ _ _ h2) (ok1 (ln_ p_v.aT ah.lf)))<|
 .l1m [.kill 0] Tryz.f206 0 [1,1,0,1,0,1,1,1,1,1,1,1,1,1,0,1,1,0] 0 (.exit 1) (fun(v0,l0)=>⟨[(0,.own 3),(53,.lf (.rows 5 (p_v.aT.map ah.lf))),(54,.i_ (p_v.aT.length:Int)),(55,.i_ v0)],[.dead,.dead,.dead,.row 5 1 (l0.map (lfK .u8))]⟩) (fun r_=>⟨[(0,.own 3)],[.dead,.dead,.dead,.row 5 1 (r_.map (lfK .u8))]⟩) (af4 R_ p_v 0 r4) (ru R_ p_v) (0,r4) fun r5=>
 .ret ⟨[],[0],[(3,2)],3⟩ (r5))<|
 .iB (p_v.aF==5) (.nu p_v.aW aJ.lf<|
 .ask (Q53 (p_v.aW.length:Int) [IntKind.wrap .u8 p_v.aF]) fun r6 h3=>
 .say [.jm [2] (.own 1) [.dead,.row 5 1 (r6.map (lfK .u8))],.num p_v.aW.length] (okc (CZ _ _ _ h3) (ok1 (ln_ p_v.aW aJ.lf)))<|
 .l1m [.kill 0] Tryz.f206 0 [1,1,0,1,0,1,1,1,1,1,1,1,1,1,1,1,0,1,1,0] 0 (.exit 3) (fun(v1,l1)=>⟨[(0,.own 3),(71,.lf (.rows 6 (p_v.aW.map aJ.lf))),(72,.i_ (p_v.aW.length:Int)),(73,.i_ v1)],[.dead,.dead,.dead,.row 5 1 (l1.map (lfK .u8))]⟩) (fun r_=>⟨[(0,.own 3)],[.dead,.dead,.dead,.row 5 1 (r_.map (lfK .u8))]⟩) (af5 R_ p_v 0 r6) (rC R_ p_v) (0,r6) fun r7=>
 .ret ⟨[],[0],[(3,2)],3⟩ (r7))<|
 .ret ⟨[.kill 0],[0],[],3⟩ ([IntKind.wrap .u8 p_v.aF])
def Sv(R_:rW)(p_v:ah):Mo (List Int):=
 .say [.rows ([IntKind.wrap .u8 p_v.aF].map (lfK .u8))] (ok1 (by simp[lfI,lfK]:[IntKind.wrap .u8 p_v.aF].map (lfK .u8)=[]++[((lfK .u8) (IntKind.wrap .u8 p_v.aF))]))<|
 .grd ((([]:List Int).length+[IntKind.wrap .u8 p_v.aF].length)*1≤140737488355328) fun h0=>
 .say [] (ok1 (by first|(simp;done)|simpa using h0:(([]:List (List Lf)).length+[((lfK .u8) (IntKind.wrap .u8 p_v.aF))].length)*1≤140737488355328))<|
 .jy [.kill 1] Tryz.f206 0 [1,1,0,1] 6 (.normal) (fun r_=>⟨[(0,.own 2)],[.dead,.dead,.row 5 1 (r_.map (lfK .u8))]⟩) ⟨[(0,.own 2),(3,.ptr 0 0),(16,.i_ p_v.aF)],[aZ p_v,.dead,.row 5 1 ([IntKind.wrap .u8 p_v.aF].map (lfK .u8))]⟩ (G9 R_ p_v) fun r0=>
 .ret ⟨[.mvn 2],[0],[(3,0)],1⟩ (r0)
theorem ap0(R_:rW):WT fun p_v=>Mo.den (Sv R_ p_v):=fun _=>eP Tryz.func206
def Nh(R_:rW)(p_s0:List Int)(p_v:ah):Mo (Bool):=
 .iB (p_v.aF==3) (.rt [0,3,16,17] 4 (p_v.aF==3))<|
 .rt [0,3,16,17] 4 (p_v.aF==10)
def Nj(R_:rW)(p_s0:List Int)(p_v:ah):Mo (Bool):=
 .iB (p_v.aF==4) (.rt [0,3,16,32] 4 (p_v.aF==4))<|
 .rt [0,3,16,32] 4 (p_v.aF==7)
def rD(R_:rW)(p_v:ah):(Int×(List Int))→Mo ((Int×(List Int))⊕((List Int))):=fun(v0,l0)=>
 .iB (decide ((v0:Int)<(p_v.aT.length:Int))) (.gx ah.aX p_v.aT v0 fun x0 _=>
 .say [.at_ 38 2,.tod 60] ok0<|
 .cH [4] (R_.ok2 x0 l0) fun r0 _=>
 .ret ⟨[],[0,53,54,55],[(6,4)],5⟩ (.inl (IntKind.wrap .i64 (v0+1),r0)))<|
 .rt [0] 5 (.inr (l0))
def af6(R_:rW)(p_v:ah)(v0:Int)(l0:List Int):Option (((List Int))):=bV (fun v_=>(rD R_ p_v v_).den) FU (v0,l0)
def rE(R_:rW)(p_v:ah):(Int×(List Int))→Mo ((Int×(List Int))⊕((List Int))):=fun(v0,l0)=>
 .iB (decide ((v0:Int)<(p_v.aW.length:Int))) (.gx aJ.aX p_v.aW v0 fun x0 _=>
 .ask (Z4 x0.fName l0) fun r0 h0=>
 .say [] (ok1 (JV _ _ _ h0))<|
 .ask (R_.m2 x0.fValue r0) fun r1 h1=>
 .say [.jf (.q 0 (.q 1 (.q 2 (.q 4 (.q 5 (.l 3 (.l 6 (.q 7 .fin)))))))) (some 6) [4] [.jm [4] (.own 1) [.dead,.row 5 1 (r0.map (lfK .u8))],.at_ 52 6,.tod 82,.jm [6] (.own 1) [.dead,.row 5 1 (r1.map (lfK .u8))]] [0,71,72,73] 8 [(0,.own 7),(71,.lf (.rows 6 (p_v.aW.map aJ.lf))),(72,.i_ (p_v.aW.length:Int)),(73,.i_ v0)] [.dead,.dead,.dead,.dead,.dead,.box 115 (.agg ((aJ.lf1 x0).map AV.lf)),.dead,.row 5 1 (r1.map (lfK .u8))]] (okc (R_.ok2 _ _ _ h1) (ok1 (rf_ ⟨[(0,.own 7),(71,.lf (.rows 6 (p_v.aW.map aJ.lf))),(72,.i_ (p_v.aW.length:Int)),(73,.i_ v0)],[.dead,.dead,.dead,.dead,.dead,.box 115 (.agg ((aJ.lf1 x0).map AV.lf)),.dead,.row 5 1 (r1.map (lfK .u8))]⟩)))<|
 .ret ⟨[],[0,71,72,73],[(7,4)],5⟩ (.inl (IntKind.wrap .i64 (v0+1),r1)))<|
 .rt [0] 5 (.inr (l0))
def af7(R_:rW)(p_v:ah)(v0:Int)(l0:List Int):Option (((List Int))):=bV (fun v_=>(rE R_ p_v v_).den) FU (v0,l0)
def He(R_:rW)(p_s0:List Int)(p_v:ah):Mo (((List Int))):=
 .jk Tryz.f206 1 [1,1,0,1,0,0,1] 1 (fun r_=>⟨[(0,.own 3),(3,.ptr 1 0),(16,.i_ p_v.aF),(17,.b_ r_)],[.dead,aZ p_v,.dead,.row 5 1 ((p_s0++[IntKind.wrap .u8 p_v.aF]).map (lfK .u8))]⟩) ⟨[(0,.own 3),(3,.ptr 1 0),(16,.i_ p_v.aF),(17,.lf (.bool (p_v.aF==3)))],[.dead,aZ p_v,.dead,.row 5 1 ((p_s0++[IntKind.wrap .u8 p_v.aF]).map (lfK .u8))]⟩ (Nh R_ p_s0 p_v) fun r0=>
 .iB (r0) (.cH [3] (CZ p_v.eF (p_s0++[IntKind.wrap .u8 p_v.aF])) fun r1 _=>
 .ret ⟨[.kill 1],[0],[(4,3)],4⟩ (r1))<|
 .iB (p_v.aF==9) (.say [.rows (((p_s0++[IntKind.wrap .u8 p_v.aF])++[IntKind.wrap .u8 p_v.eF]).map (lfK .u8))] (ok1 (by simp[lfI,lfK]:((p_s0++[IntKind.wrap .u8 p_v.aF])++[IntKind.wrap .u8 p_v.eF]).map (lfK .u8)=((p_s0++[IntKind.wrap .u8 p_v.aF]).map (lfK .u8))++[((lfK .u8) (IntKind.wrap .u8 p_v.eF))]))<|
 .grd (((p_s0++[IntKind.wrap .u8 p_v.aF]).length+[IntKind.wrap .u8 p_v.eF].length)*1≤140737488355328) fun h0=>
 .say [] (ok1 (by simpa using h0:(((p_s0++[IntKind.wrap .u8 p_v.aF]).map (lfK .u8)).length+[((lfK .u8) (IntKind.wrap .u8 p_v.eF))].length)*1≤140737488355328))<|
 .ret ⟨[.kill 1],[0],[(5,3)],4⟩ ((p_s0++[IntKind.wrap .u8 p_v.aF])++[IntKind.wrap .u8 p_v.eF]))<|
 .jk Tryz.f206 1 [1,1,0,1,0,1,1,1,1,0,1] 1 (fun r_=>⟨[(0,.own 3),(3,.ptr 1 0),(16,.i_ p_v.aF),(32,.b_ r_)],[.dead,aZ p_v,.dead,.row 5 1 ((p_s0++[IntKind.wrap .u8 p_v.aF]).map (lfK .u8))]⟩) ⟨[(0,.own 3),(3,.ptr 1 0),(16,.i_ p_v.aF),(32,.lf (.bool (p_v.aF==4)))],[.dead,aZ p_v,.dead,.row 5 1 ((p_s0++[IntKind.wrap .u8 p_v.aF]).map (lfK .u8))]⟩ (Nj R_ p_s0 p_v) fun r2=>
 .iB (r2) (.cH [3] (JV p_v.fText (p_s0++[IntKind.wrap .u8 p_v.aF])) fun r3 _=>
 .ret ⟨[.kill 1],[0],[(4,3)],4⟩ (r3))<|
 .iB (p_v.aF==8) (.say [.rows (((p_s0++[IntKind.wrap .u8 p_v.aF])++(numsOf (p_v.fText:ByteArray))).map (lfK .u8))] (ok1 (by first|(rw[List.map_append,iq];done)|(rw[iq,List.nil_append];done)|simp[lfI,lfK,iq]:((p_s0++[IntKind.wrap .u8 p_v.aF])++(numsOf (p_v.fText:ByteArray))).map (lfK .u8)=((p_s0++[IntKind.wrap .u8 p_v.aF]).map (lfK .u8))++yt (p_v.fText:ByteArray)))<|
 .grd ((p_s0++[IntKind.wrap .u8 p_v.aF]).length+(p_v.fText:ByteArray).size≤140737488355328) fun h1=>
 .say [] (ok1 (by simpa using h1:((p_s0++[IntKind.wrap .u8 p_v.aF]).map (lfK .u8)).length+(p_v.fText:ByteArray).size≤140737488355328))<|
 .ret ⟨[.kill 1],[0],[(4,3)],4⟩ ((p_s0++[IntKind.wrap .u8 p_v.aF])++(numsOf (p_v.fText:ByteArray))))<|
 .iB (p_v.aF==6) (.nu p_v.aT ah.lf<|
 .ask (Q53 (p_v.aT.length:Int) (p_s0++[IntKind.wrap .u8 p_v.aF])) fun r4 h2=>
 .say [.jm [3] (.own 1) [.dead,.row 5 1 (r4.map (lfK .u8))],.num p_v.aT.length] (okc (CZ _ _ _ h2) (ok1 (ln_ p_v.aT ah.lf)))<|
 .l1m [.kill 1] Tryz.f206 1 [1,1,0,1,0,1,1,1,1,1,1,1,1,1,0,1,1,0] 0 (.exit 1) (fun(v0,l0)=>⟨[(0,.own 4),(53,.lf (.rows 5 (p_v.aT.map ah.lf))),(54,.i_ (p_v.aT.length:Int)),(55,.i_ v0)],[.dead,.dead,.dead,.dead,.row 5 1 (l0.map (lfK .u8))]⟩) (fun r_=>⟨[(0,.own 4)],[.dead,.dead,.dead,.dead,.row 5 1 (r_.map (lfK .u8))]⟩) (af6 R_ p_v 0 r4) (rD R_ p_v) (0,r4) fun r5=>
 .ret ⟨[],[0],[(4,3)],4⟩ (r5))<|
 .iB (p_v.aF==5) (.nu p_v.aW aJ.lf<|
 .ask (Q53 (p_v.aW.length:Int) (p_s0++[IntKind.wrap .u8 p_v.aF])) fun r6 h3=>
 .say [.jm [3] (.own 1) [.dead,.row 5 1 (r6.map (lfK .u8))],.num p_v.aW.length] (okc (CZ _ _ _ h3) (ok1 (ln_ p_v.aW aJ.lf)))<|
 .l1m [.kill 1] Tryz.f206 1 [1,1,0,1,0,1,1,1,1,1,1,1,1,1,1,1,0,1,1,0] 0 (.exit 3) (fun(v1,l1)=>⟨[(0,.own 4),(71,.lf (.rows 6 (p_v.aW.map aJ.lf))),(72,.i_ (p_v.aW.length:Int)),(73,.i_ v1)],[.dead,.dead,.dead,.dead,.row 5 1 (l1.map (lfK .u8))]⟩) (fun r_=>⟨[(0,.own 4)],[.dead,.dead,.dead,.dead,.row 5 1 (r_.map (lfK .u8))]⟩) (af7 R_ p_v 0 r6) (rE R_ p_v) (0,r6) fun r7=>
 .ret ⟨[],[0],[(4,3)],4⟩ (r7))<|
 .ret ⟨[.kill 1],[0],[],4⟩ (p_s0++[IntKind.wrap .u8 p_v.aF])
def Sz(R_:rW)(p_v:ah)(p_s0:List Int):Mo (List Int):=
 .say [.rows ((p_s0++[IntKind.wrap .u8 p_v.aF]).map (lfK .u8))] (ok1 (by simp[lfI,lfK]:(p_s0++[IntKind.wrap .u8 p_v.aF]).map (lfK .u8)=(p_s0.map (lfK .u8))++[((lfK .u8) (IntKind.wrap .u8 p_v.aF))]))<|
 .grd ((p_s0.length+[IntKind.wrap .u8 p_v.aF].length)*1≤140737488355328) fun h0=>
 .say [] (ok1 (by simpa using h0:((p_s0.map (lfK .u8)).length+[((lfK .u8) (IntKind.wrap .u8 p_v.aF))].length)*1≤140737488355328))<|
 .jy [.kill 2] Tryz.f206 1 [1,1,0,1] 6 (.normal) (fun r_=>⟨[(0,.own 3)],[.dead,.dead,.dead,.row 5 1 (r_.map (lfK .u8))]⟩) ⟨[(0,.own 3),(3,.ptr 1 0),(16,.i_ p_v.aF)],[.dead,aZ p_v,.dead,.row 5 1 ((p_s0++[IntKind.wrap .u8 p_v.aF]).map (lfK .u8))]⟩ (He R_ p_s0 p_v) fun r0=>
 .ret ⟨[.mvn 3],[0],[(4,1)],2⟩ (r0)
theorem ap1(R_:rW):af2 fun p_v p_s0=>Mo.den (Sz R_ p_v p_s0):=fun _ _=>eP Tryz.func206
def lg:Nat→rW
 |0=>{ m1:=fun p_v=>none,ok1:=fun _ _ h=>(by cases h),m2:=fun p_v p_s0=>none,ok2:=fun _ _ _ h=>(by cases h) }
 |n_+1=>{ m1:=fun p_v=>Mo.den (Sv (lg n_) p_v),ok1:=ap0 (lg n_),m2:=fun p_v p_s0=>Mo.den (Sz (lg n_) p_v p_s0),ok2:=ap1 (lg n_) }
def Q20(p_v:ah):Option (List Int):=(lg FU).m1 p_v
theorem auh:WT Q20:=(lg FU).ok1
def adE(p_v:ah):Mo (ByteArray×Int):=
 .cl (o9 p_v) fun r0 _=>
 .iB (!r0) (.ret (aU 2) (⟨#[]⟩,8))<|
 .ask (Q20 p_v) fun r1 h0=>
 .say [.jm [] (.own 0) [.row 5 1 (r1.map (lfK .u8))],.nums r1] (okc (auh _ _ h0) (ok1 (by simp[lfI,lfK]:(r1.map (lfK .u8))=r1.map fun n=>[Lf.int .u8 n])))<|
 .ret (aU 2) (strOfNums r1,0)
def alc(p_v:ah):Option (ByteArray×Int):=Mo.den (adE p_v)
theorem ap2(p_v:ah):FV (alc p_v) 133 [.dat (ah.lf1 p_v)] (fun r=>.tup [.lf (.str r.1),.i_ r.2]):=dw Tryz.func133
def ald(p_v:ah)(p_b0:aH):Mo (aH):=
 .cl (Eb p_v) fun r0 _=>
 .iB (r0) (.cH [0,1] (rV false p_b0) fun r1 _=>
 .ret ⟨[.kill 2,.mvn 3],[],[(4,2)],3⟩ (r1))<|
 .cl (o9 p_v) fun r2 _=>
 .iB (!r2) (.ret ⟨[.kill 2,.mvn 1],[],[(3,2)],3⟩ (aH.mk p_b0.bF true))<|
 .cl (ap2 p_v) fun r3 _=>
 .iB (r3.2 != 0) (.ret ⟨[.kill 2,.mvn 1],[],[(3,2)],3⟩ (aH.mk p_b0.bF true))<|
 .ask (Q89 true p_b0) fun r4 h0=>
 .say [.jm [0,1] (.tup []) [.box 75 (.agg [.own 2,.b_ r4.dS]),.dead,.row 5 1 (r4.bF.map (lfK .u8))],.rows ((r4.bF++(numsOf (r3.1:ByteArray))).map (lfK .u8))] (okc (rV _ _ _ h0) (ok1 (by first|(rw[List.map_append,iq];done)|(rw[iq,List.nil_append];done)|simp[lfI,lfK,iq]:(r4.bF++(numsOf (r3.1:ByteArray))).map (lfK .u8)=(r4.bF.map (lfK .u8))++yt (r3.1:ByteArray))))<|
 .grd (r4.bF.length+(r3.1:ByteArray).size≤140737488355328) fun h1=>
 .say [] (ok1 (by simpa using h1:(r4.bF.map (lfK .u8)).length+(r3.1:ByteArray).size≤140737488355328))<|
 .ret ⟨[.kill 2,.mvn 4],[],[(5,2)],3⟩ (aH.mk (r4.bF++(numsOf (r3.1:ByteArray))) r4.dS)
def ap3(p_v:ah)(p_b0:aH):Option (aH):=Mo.den (ald p_v p_b0)
theorem tX(p_v:ah)(p_b0:aH):FH (ap3 p_v p_b0) 76 [.ptr 0 0,.dat (ah.lf1 p_v)] [.box 75 (.agg [.own 1,.b_ p_b0.dS]),.row 5 1 (p_b0.bF.map (lfK .u8))] (fun _=>.tup []) (fun r=>[.box 75 (.agg [.own 2,.b_ r.dS]),.dead,.row 5 1 (r.bF.map (lfK .u8))]):=eP Tryz.func76
def ale(p_s:ByteArray)(p_b0:aH):Mo (aH):=
 .cH [0,1] (tV p_s p_b0) fun r0 _=>
 .ret ⟨[.mvn 2],[],[(3,2)],3⟩ (r0)
def aui(p_s:ByteArray)(p_b0:aH):Option (aH):=Mo.den (ale p_s p_b0)
theorem ap4(p_s:ByteArray)(p_b0:aH):FH (aui p_s p_b0) 209 [.ptr 0 0,.lf (.str p_s)] [.box 75 (.agg [.own 1,.b_ p_b0.dS]),.row 5 1 (p_b0.bF.map (lfK .u8))] (fun _=>.tup []) (fun r=>[.box 75 (.agg [.own 2,.b_ r.dS]),.dead,.row 5 1 (r.bF.map (lfK .u8))]):=eP Tryz.func209
def Nk(p_l:List ByteArray):(Int×Bool×(List Int))→Mo ((Int×Bool×(List Int))⊕(Bool×(List Int))):=fun(v0,v1,l0)=>
 .iB (decide ((v0:Int)<(p_l.length:Int))) (.gx lS_ p_l v0 fun x0 _=>
 .cH [0,2] (ap4 x0 (aH.mk l0 v1)) fun r0 _=>
 .ret ⟨[],[0,2,12,13,14],[(3,2)],3⟩ (.inl (IntKind.wrap .i64 (v0+1),r0.dS,r0.bF)))<|
 .rt [] 3 (.inr (v1,l0))
def ar7(p_l:List ByteArray)(p_b0:aH):Mo (aH):=
 .nu p_l lfS<|
 .ask (Q18 (p_l.length:Int) p_b0) fun r0 h0=>
 .say [.jm [0,1] (.tup []) [.box 75 (.agg [.own 2,.b_ r0.dS]),.dead,.row 5 1 (r0.bF.map (lfK .u8))],.num p_l.length] (okc (gY _ _ _ h0) (ok1 (ln_ p_l lfS)))<|
 .l1 Tryz.f208 2 [1,1,0] 0 (.exit 0) (fun(v0,v1,l0)=>⟨[(0,.ptr 0 0),(2,.raw (.func (.func 209) #[] #[])),(12,.lf (.rows 1 (p_l.map lfS))),(13,.i_ (p_l.length:Int)),(14,.i_ v0)],[.box 75 (.agg [.own 2,.b_ v1]),.dead,.row 5 1 (l0.map (lfK .u8))]⟩) (fun r_=>⟨[],[.box 75 (.agg [.own 2,.b_ r_.1]),.dead,.row 5 1 (r_.2.map (lfK .u8))]⟩) (Nk p_l) (0,r0.dS,r0.bF) fun r1=>
 .ret ⟨[.mvn 2],[],[(3,2)],3⟩ (aH.mk r1.2 r1.1)
def Q93(p_l:List ByteArray)(p_b0:aH):Option (aH):=Mo.den (ar7 p_l p_b0)
theorem Nl(p_l:List ByteArray)(p_b0:aH):FH (Q93 p_l p_b0) 208 [.ptr 0 0,.lf (.rows 1 (p_l.map lfS)),.raw (.func (.func 209) #[] #[])] [.box 75 (.agg [.own 1,.b_ p_b0.dS]),.row 5 1 (p_b0.bF.map (lfK .u8))] (fun _=>.tup []) (fun r=>[.box 75 (.agg [.own 2,.b_ r.dS]),.dead,.row 5 1 (r.bF.map (lfK .u8))]):=eP Tryz.func208
def alf(p_o:aY)(p_b0:aH):Mo (aH):=
 .cH [0,1] (Nl p_o.cO p_b0) fun r0 _=>
 .cH [0,3] (rV p_o.xW r0) fun r1 _=>
 .ret ⟨[.kill 2,.mvn 4],[],[(5,2)],3⟩ (r1)
def ap5(p_o:aY)(p_b0:aH):Option (aH):=Mo.den (alf p_o p_b0)
theorem ap6(p_o:aY)(p_b0:aH):FH (ap5 p_o p_b0) 137 [.ptr 0 0,.dat (aY.lf1 p_o)] [.box 75 (.agg [.own 1,.b_ p_b0.dS]),.row 5 1 (p_b0.bF.map (lfK .u8))] (fun _=>.tup []) (fun r=>[.box 75 (.agg [.own 2,.b_ r.dS]),.dead,.row 5 1 (r.bF.map (lfK .u8))]):=eP Tryz.func137
def Hf(p_l:List aY):(Int×Bool×(List Int))→Mo ((Int×Bool×(List Int))⊕(Bool×(List Int))):=fun(v0,v1,l0)=>
 .iB (decide ((v0:Int)<(p_l.length:Int))) (.gx aY.aX p_l v0 fun x0 _=>
 .say [.at_ 10 3,.tod 20] ok0<|
 .cH [0,2] (ap6 x0 (aH.mk l0 v1)) fun r0 _=>
 .ret ⟨[],[0,2,12,13,14],[(4,2)],3⟩ (.inl (IntKind.wrap .i64 (v0+1),r0.dS,r0.bF)))<|
 .rt [] 3 (.inr (v1,l0))
def alg(p_l:List aY)(p_b0:aH):Mo (aH):=
 .nu p_l aY.lf<|
 .ask (Q18 (p_l.length:Int) p_b0) fun r0 h0=>
 .say [.jm [0,1] (.tup []) [.box 75 (.agg [.own 2,.b_ r0.dS]),.dead,.row 5 1 (r0.bF.map (lfK .u8))],.num p_l.length] (okc (gY _ _ _ h0) (ok1 (ln_ p_l aY.lf)))<|
 .l1 Tryz.f136 2 [1,1,0] 0 (.exit 0) (fun(v0,v1,l0)=>⟨[(0,.ptr 0 0),(2,.raw (.func (.func 137) #[] #[])),(12,.lf (.rows 2 (p_l.map aY.lf))),(13,.i_ (p_l.length:Int)),(14,.i_ v0)],[.box 75 (.agg [.own 2,.b_ v1]),.dead,.row 5 1 (l0.map (lfK .u8))]⟩) (fun r_=>⟨[],[.box 75 (.agg [.own 2,.b_ r_.1]),.dead,.row 5 1 (r_.2.map (lfK .u8))]⟩) (Hf p_l) (0,r0.dS,r0.bF) fun r1=>
 .ret ⟨[.mvn 2],[],[(3,2)],3⟩ (aH.mk r1.2 r1.1)
def auj(p_l:List aY)(p_b0:aH):Option (aH):=Mo.den (alg p_l p_b0)
theorem ap7(p_l:List aY)(p_b0:aH):FH (auj p_l p_b0) 136 [.ptr 0 0,.lf (.rows 2 (p_l.map aY.lf)),.raw (.func (.func 137) #[] #[])] [.box 75 (.agg [.own 1,.b_ p_b0.dS]),.row 5 1 (p_b0.bF.map (lfK .u8))] (fun _=>.tup []) (fun r=>[.box 75 (.agg [.own 2,.b_ r.dS]),.dead,.row 5 1 (r.bF.map (lfK .u8))]):=eP Tryz.func136
def Hg(p_l:List ah):(Int×Bool×(List Int))→Mo ((Int×Bool×(List Int))⊕(Bool×(List Int))):=fun(v0,v1,l0)=>
 .iB (decide ((v0:Int)<(p_l.length:Int))) (.gx ah.aX p_l v0 fun x0 _=>
 .say [.at_ 10 3,.tod 20] ok0<|
 .cH [0,2] (tX x0 (aH.mk l0 v1)) fun r0 _=>
 .ret ⟨[],[0,2,12,13,14],[(4,2)],3⟩ (.inl (IntKind.wrap .i64 (v0+1),r0.dS,r0.bF)))<|
 .rt [] 3 (.inr (v1,l0))
def alh(p_l:List ah)(p_b0:aH):Mo (aH):=
 .nu p_l ah.lf<|
 .ask (Q18 (p_l.length:Int) p_b0) fun r0 h0=>
 .say [.jm [0,1] (.tup []) [.box 75 (.agg [.own 2,.b_ r0.dS]),.dead,.row 5 1 (r0.bF.map (lfK .u8))],.num p_l.length] (okc (gY _ _ _ h0) (ok1 (ln_ p_l ah.lf)))<|
 .l1 Tryz.f207 2 [1,1,0] 0 (.exit 0) (fun(v0,v1,l0)=>⟨[(0,.ptr 0 0),(2,.raw (.func (.func 76) #[] #[])),(12,.lf (.rows 5 (p_l.map ah.lf))),(13,.i_ (p_l.length:Int)),(14,.i_ v0)],[.box 75 (.agg [.own 2,.b_ v1]),.dead,.row 5 1 (l0.map (lfK .u8))]⟩) (fun r_=>⟨[],[.box 75 (.agg [.own 2,.b_ r_.1]),.dead,.row 5 1 (r_.2.map (lfK .u8))]⟩) (Hg p_l) (0,r0.dS,r0.bF) fun r1=>
 .ret ⟨[.mvn 2],[],[(3,2)],3⟩ (aH.mk r1.2 r1.1)
def auk(p_l:List ah)(p_b0:aH):Option (aH):=Mo.den (alh p_l p_b0)
theorem af8(p_l:List ah)(p_b0:aH):FH (auk p_l p_b0) 207 [.ptr 0 0,.lf (.rows 5 (p_l.map ah.lf)),.raw (.func (.func 76) #[] #[])] [.box 75 (.agg [.own 1,.b_ p_b0.dS]),.row 5 1 (p_b0.bF.map (lfK .u8))] (fun _=>.tup []) (fun r=>[.box 75 (.agg [.own 2,.b_ r.dS]),.dead,.row 5 1 (r.bF.map (lfK .u8))]):=eP Tryz.func207
def ali(p_p:bU)(p_b0:aH):Mo (aH):=
 .cH [0,1] (gY p_p.fX p_b0) fun r0 _=>
 .cH [0,3] (gY p_p.fY r0) fun r1 _=>
 .ret ⟨[.kill 2,.mvn 4],[],[(5,2)],3⟩ (r1)
def ap8(p_p:bU)(p_b0:aH):Option (aH):=Mo.den (ali p_p p_b0)
theorem ap9(p_p:bU)(p_b0:aH):FH (ap8 p_p p_b0) 214 [.ptr 0 0,.dat (bU.lf1 p_p)] [.box 75 (.agg [.own 1,.b_ p_b0.dS]),.row 5 1 (p_b0.bF.map (lfK .u8))] (fun _=>.tup []) (fun r=>[.box 75 (.agg [.own 2,.b_ r.dS]),.dead,.row 5 1 (r.bF.map (lfK .u8))]):=eP Tryz.func214
def Ho(p_l:List bU):(Int×Bool×(List Int))→Mo ((Int×Bool×(List Int))⊕(Bool×(List Int))):=fun(v0,v1,l0)=>
 .iB (decide ((v0:Int)<(p_l.length:Int))) (.gx bU.aX p_l v0 fun x0 _=>
 .say [.at_ 10 3,.tod 20] ok0<|
 .cH [0,2] (ap9 x0 (aH.mk l0 v1)) fun r0 _=>
 .ret ⟨[],[0,2,12,13,14],[(4,2)],3⟩ (.inl (IntKind.wrap .i64 (v0+1),r0.dS,r0.bF)))<|
 .rt [] 3 (.inr (v1,l0))
def alj(p_l:List bU)(p_b0:aH):Mo (aH):=
 .nu p_l bU.lf<|
 .ask (Q18 (p_l.length:Int) p_b0) fun r0 h0=>
 .say [.jm [0,1] (.tup []) [.box 75 (.agg [.own 2,.b_ r0.dS]),.dead,.row 5 1 (r0.bF.map (lfK .u8))],.num p_l.length] (okc (gY _ _ _ h0) (ok1 (ln_ p_l bU.lf)))<|
 .l1 Tryz.f213 2 [1,1,0] 0 (.exit 0) (fun(v0,v1,l0)=>⟨[(0,.ptr 0 0),(2,.raw (.func (.func 214) #[] #[])),(12,.lf (.rows 2 (p_l.map bU.lf))),(13,.i_ (p_l.length:Int)),(14,.i_ v0)],[.box 75 (.agg [.own 2,.b_ v1]),.dead,.row 5 1 (l0.map (lfK .u8))]⟩) (fun r_=>⟨[],[.box 75 (.agg [.own 2,.b_ r_.1]),.dead,.row 5 1 (r_.2.map (lfK .u8))]⟩) (Ho p_l) (0,r0.dS,r0.bF) fun r1=>
 .ret ⟨[.mvn 2],[],[(3,2)],3⟩ (aH.mk r1.2 r1.1)
def aul(p_l:List bU)(p_b0:aH):Option (aH):=Mo.den (alj p_l p_b0)
theorem aqa(p_l:List bU)(p_b0:aH):FH (aul p_l p_b0) 213 [.ptr 0 0,.lf (.rows 2 (p_l.map bU.lf)),.raw (.func (.func 214) #[] #[])] [.box 75 (.agg [.own 1,.b_ p_b0.dS]),.row 5 1 (p_b0.bF.map (lfK .u8))] (fun _=>.tup []) (fun r=>[.box 75 (.agg [.own 2,.b_ r.dS]),.dead,.row 5 1 (r.bF.map (lfK .u8))]):=eP Tryz.func213
abbrev WU(m:aQ→aH→Option (aH)):Prop:=∀p_e p_b0,FH (m p_e p_b0) 215 [.ptr 0 0,.dat (aQ.lf1 p_e)] [.box 75 (.agg [.own 1,.b_ p_b0.dS]),.row 5 1 (p_b0.bF.map (lfK .u8))] (fun _=>.tup []) (fun r=>[.box 75 (.agg [.own 2,.b_ r.dS]),.dead,.row 5 1 (r.bF.map (lfK .u8))])
abbrev af9(m:(List aQ)→aH→Option (aH)):Prop:=∀p_l p_b0,FH (m p_l p_b0) 279 [.ptr 0 0,.lf (.rows 11 (p_l.map aQ.lf)),.raw (.func (.func 215) #[] #[])] [.box 75 (.agg [.own 1,.b_ p_b0.dS]),.row 5 1 (p_b0.bF.map (lfK .u8))] (fun _=>.tup []) (fun r=>[.box 75 (.agg [.own 2,.b_ r.dS]),.dead,.row 5 1 (r.bF.map (lfK .u8))])
structure ah4 where
 m1:(p_e:aQ)→(p_b0:aH)→Option (aH)
 ok1:WU m1
 m2:(p_l:List aQ)→(p_b0:aH)→Option (aH)
 ok2:af9 m2
def WV(R_:ah4)(p_e:aQ)(p_b0:aH):Mo (aH):=
 .cH [0,1] (gY p_e.fOp p_b0) fun r0 _=>
 .cH [0,3] (Nl p_e.cO r0) fun r1 _=>
 .cH [0,4] (tV p_e.fName r1) fun r2 _=>
 .cH [0,5] (Nl p_e.eu r2) fun r3 _=>
 .cH [0,6] (tX p_e.fArg r3) fun r4 _=>
 .cH [0,7] (gY p_e.fN r4) fun r5 _=>
 .cH [0,8] (R_.ok2 p_e.bC r5) fun r6 _=>
 .ret ⟨[.kill 2,.mvn 9],[],[(10,2)],3⟩ (r6)
theorem alk(R_:ah4):WU fun p_e p_b0=>Mo.den (WV R_ p_e p_b0):=fun _ _=>eP Tryz.func215
def Hq(R_:ah4)(p_l:List aQ):(Int×Bool×(List Int))→Mo ((Int×Bool×(List Int))⊕(Bool×(List Int))):=fun(v0,v1,l0)=>
 .iB (decide ((v0:Int)<(p_l.length:Int))) (.gx aQ.aX p_l v0 fun x0 _=>
 .say [.at_ 10 3,.tod 20] ok0<|
 .cH [0,2] (R_.ok1 x0 (aH.mk l0 v1)) fun r0 _=>
 .ret ⟨[],[0,2,12,13,14],[(4,2)],3⟩ (.inl (IntKind.wrap .i64 (v0+1),r0.dS,r0.bF)))<|
 .rt [] 3 (.inr (v1,l0))
def WW(R_:ah4)(p_l:List aQ)(p_b0:aH):Mo (aH):=
 .nu p_l aQ.lf<|
 .ask (Q18 (p_l.length:Int) p_b0) fun r0 h0=>
 .say [.jm [0,1] (.tup []) [.box 75 (.agg [.own 2,.b_ r0.dS]),.dead,.row 5 1 (r0.bF.map (lfK .u8))],.num p_l.length] (okc (gY _ _ _ h0) (ok1 (ln_ p_l aQ.lf)))<|
 .l1 Tryz.f279 2 [1,1,0] 0 (.exit 0) (fun(v0,v1,l0)=>⟨[(0,.ptr 0 0),(2,.raw (.func (.func 215) #[] #[])),(12,.lf (.rows 11 (p_l.map aQ.lf))),(13,.i_ (p_l.length:Int)),(14,.i_ v0)],[.box 75 (.agg [.own 2,.b_ v1]),.dead,.row 5 1 (l0.map (lfK .u8))]⟩) (fun r_=>⟨[],[.box 75 (.agg [.own 2,.b_ r_.1]),.dead,.row 5 1 (r_.2.map (lfK .u8))]⟩) (Hq R_ p_l) (0,r0.dS,r0.bF) fun r1=>
 .ret ⟨[.mvn 2],[],[(3,2)],3⟩ (aH.mk r1.2 r1.1)
theorem alm(R_:ah4):af9 fun p_l p_b0=>Mo.den (WW R_ p_l p_b0):=fun _ _=>eP Tryz.func279
def qK:Nat→ah4
 |0=>{ m1:=fun p_e p_b0=>none,ok1:=fun _ _ _ h=>(by cases h),m2:=fun p_l p_b0=>none,ok2:=fun _ _ _ h=>(by cases h) }
 |n_+1=>{ m1:=fun p_e p_b0=>Mo.den (WV (qK n_) p_e p_b0),ok1:=alk (qK n_),m2:=fun p_l p_b0=>Mo.den (WW (qK n_) p_l p_b0),ok2:=alm (qK n_) }
def awr(p_e:aQ)(p_b0:aH):Option (aH):=(qK FU).m1 p_e p_b0
theorem aqb:WU awr:=(qK FU).ok1
abbrev WX(m:aO→aH→Option (aH)):Prop:=∀p_p p_b0,FH (m p_p p_b0) 138 [.ptr 0 0,.dat (aO.lf1 p_p)] [.box 75 (.agg [.own 1,.b_ p_b0.dS]),.row 5 1 (p_b0.bF.map (lfK .u8))] (fun _=>.tup []) (fun r=>[.box 75 (.agg [.own 2,.b_ r.dS]),.dead,.row 5 1 (r.bF.map (lfK .u8))])
abbrev aga(m:(List aO)→aH→Option (aH)):Prop:=∀p_l p_b0,FH (m p_l p_b0) 216 [.ptr 0 0,.lf (.rows 25 (p_l.map aO.lf)),.raw (.func (.func 138) #[] #[])] [.box 75 (.agg [.own 1,.b_ p_b0.dS]),.row 5 1 (p_b0.bF.map (lfK .u8))] (fun _=>.tup []) (fun r=>[.box 75 (.agg [.own 2,.b_ r.dS]),.dead,.row 5 1 (r.bF.map (lfK .u8))])
structure ah5 where
 m1:(p_p:aO)→(p_b0:aH)→Option (aH)
 ok1:WX m1
 m2:(p_l:List aO)→(p_b0:aH)→Option (aH)
 ok2:aga m2
def WY(R_:ah5)(p_p:aO)(p_b0:aH):Mo (aH):=
 .cH [0,1] (gY p_p.fOp p_b0) fun r0 _=>
 .cH [0,3] (Nl p_p.cO r0) fun r1 _=>
 .cH [0,4] (tX p_p.fArg r1) fun r2 _=>
 .cH [0,5] (af8 p_p.fArgs r2) fun r3 _=>
 .cH [0,6] (gY p_p.fN r3) fun r4 _=>
 .cH [0,7] (gY p_p.fM r4) fun r5 _=>
 .cH [0,8] (gY p_p.dI.aF r5) fun r6 _=>
 .cH [0,9] (aqa p_p.dI.bG r6) fun r7 _=>
 .cH [0,10] (gY p_p.dI.fR r7) fun r8 _=>
 .cH [0,11] (aqb p_p.fExpr r8) fun r9 _=>
 .cH [0,12] (R_.ok2 p_p.bC r9) fun r10 _=>
 .ret ⟨[.kill 2,.mvn 13],[],[(14,2)],3⟩ (r10)
theorem aln(R_:ah5):WX fun p_p p_b0=>Mo.den (WY R_ p_p p_b0):=fun _ _=>eP Tryz.func138
def Hr(R_:ah5)(p_l:List aO):(Int×Bool×(List Int))→Mo ((Int×Bool×(List Int))⊕(Bool×(List Int))):=fun(v0,v1,l0)=>
 .iB (decide ((v0:Int)<(p_l.length:Int))) (.gx aO.aX p_l v0 fun x0 _=>
 .say [.at_ 10 3,.tod 20] ok0<|
 .cH [0,2] (R_.ok1 x0 (aH.mk l0 v1)) fun r0 _=>
 .ret ⟨[],[0,2,12,13,14],[(4,2)],3⟩ (.inl (IntKind.wrap .i64 (v0+1),r0.dS,r0.bF)))<|
 .rt [] 3 (.inr (v1,l0))
def WZ(R_:ah5)(p_l:List aO)(p_b0:aH):Mo (aH):=
 .nu p_l aO.lf<|
 .ask (Q18 (p_l.length:Int) p_b0) fun r0 h0=>
 .say [.jm [0,1] (.tup []) [.box 75 (.agg [.own 2,.b_ r0.dS]),.dead,.row 5 1 (r0.bF.map (lfK .u8))],.num p_l.length] (okc (gY _ _ _ h0) (ok1 (ln_ p_l aO.lf)))<|
 .l1 Tryz.f216 2 [1,1,0] 0 (.exit 0) (fun(v0,v1,l0)=>⟨[(0,.ptr 0 0),(2,.raw (.func (.func 138) #[] #[])),(12,.lf (.rows 25 (p_l.map aO.lf))),(13,.i_ (p_l.length:Int)),(14,.i_ v0)],[.box 75 (.agg [.own 2,.b_ v1]),.dead,.row 5 1 (l0.map (lfK .u8))]⟩) (fun r_=>⟨[],[.box 75 (.agg [.own 2,.b_ r_.1]),.dead,.row 5 1 (r_.2.map (lfK .u8))]⟩) (Hr R_ p_l) (0,r0.dS,r0.bF) fun r1=>
 .ret ⟨[.mvn 2],[],[(3,2)],3⟩ (aH.mk r1.2 r1.1)
theorem alo(R_:ah5):aga fun p_l p_b0=>Mo.den (WZ R_ p_l p_b0):=fun _ _=>eP Tryz.func216
def qL:Nat→ah5
 |0=>{ m1:=fun p_p p_b0=>none,ok1:=fun _ _ _ h=>(by cases h),m2:=fun p_l p_b0=>none,ok2:=fun _ _ _ h=>(by cases h) }
 |n_+1=>{ m1:=fun p_p p_b0=>Mo.den (WY (qL n_) p_p p_b0),ok1:=aln (qL n_),m2:=fun p_l p_b0=>Mo.den (WZ (qL n_) p_l p_b0),ok2:=alo (qL n_) }
def awt(p_p:aO)(p_b0:aH):Option (aH):=(qL FU).m1 p_p p_b0
theorem aqc:WX awt:=(qL FU).ok1
def alp(p_x:aS)(p_b0:aH):Mo (aH):=
 .cH [0,1] (tV p_x.fName p_b0) fun r0 _=>
 .cH [0,3] (gY p_x.aF r0) fun r1 _=>
 .cH [0,4] (ap7 p_x.fA r1) fun r2 _=>
 .cH [0,5] (rV p_x.fC r2) fun r3 _=>
 .cH [0,6] (rV p_x.jS r3) fun r4 _=>
 .cH [0,7] (rV p_x.iE r4) fun r5 _=>
 .cH [0,8] (aqc p_x.bM r5) fun r6 _=>
 .ret ⟨[.kill 2,.mvn 9],[],[(10,2)],3⟩ (r6)
def aqd(p_x:aS)(p_b0:aH):Option (aH):=Mo.den (alp p_x p_b0)
theorem agb(p_x:aS)(p_b0:aH):FH (aqd p_x p_b0) 78 [.ptr 0 0,.dat (aS.lf1 p_x)] [.box 75 (.agg [.own 1,.b_ p_b0.dS]),.row 5 1 (p_b0.bF.map (lfK .u8))] (fun _=>.tup []) (fun r=>[.box 75 (.agg [.own 2,.b_ r.dS]),.dead,.row 5 1 (r.bF.map (lfK .u8))]):=eP Tryz.func78
def Ht(p_l:List aS):(Int×Bool×(List Int))→Mo ((Int×Bool×(List Int))⊕(Bool×(List Int))):=fun(v0,v1,l0)=>
 .iB (decide ((v0:Int)<(p_l.length:Int))) (.gx aS.aX p_l v0 fun x0 _=>
 .say [.at_ 10 3,.tod 20] ok0<|
 .cH [0,2] (agb x0 (aH.mk l0 v1)) fun r0 _=>
 .ret ⟨[],[0,2,12,13,14],[(4,2)],3⟩ (.inl (IntKind.wrap .i64 (v0+1),r0.dS,r0.bF)))<|
 .rt [] 3 (.inr (v1,l0))
def alq(p_l:List aS)(p_b0:aH):Mo (aH):=
 .nu p_l aS.lf<|
 .ask (Q18 (p_l.length:Int) p_b0) fun r0 h0=>
 .say [.jm [0,1] (.tup []) [.box 75 (.agg [.own 2,.b_ r0.dS]),.dead,.row 5 1 (r0.bF.map (lfK .u8))],.num p_l.length] (okc (gY _ _ _ h0) (ok1 (ln_ p_l aS.lf)))<|
 .l1 Tryz.f134 2 [1,1,0] 0 (.exit 0) (fun(v0,v1,l0)=>⟨[(0,.ptr 0 0),(2,.raw (.func (.func 78) #[] #[])),(12,.lf (.rows 31 (p_l.map aS.lf))),(13,.i_ (p_l.length:Int)),(14,.i_ v0)],[.box 75 (.agg [.own 2,.b_ v1]),.dead,.row 5 1 (l0.map (lfK .u8))]⟩) (fun r_=>⟨[],[.box 75 (.agg [.own 2,.b_ r_.1]),.dead,.row 5 1 (r_.2.map (lfK .u8))]⟩) (Ht p_l) (0,r0.dS,r0.bF) fun r1=>
 .ret ⟨[.mvn 2],[],[(3,2)],3⟩ (aH.mk r1.2 r1.1)
def aum(p_l:List aS)(p_b0:aH):Option (aH):=Mo.den (alq p_l p_b0)
theorem aqe(p_l:List aS)(p_b0:aH):FH (aum p_l p_b0) 134 [.ptr 0 0,.lf (.rows 31 (p_l.map aS.lf)),.raw (.func (.func 78) #[] #[])] [.box 75 (.agg [.own 1,.b_ p_b0.dS]),.row 5 1 (p_b0.bF.map (lfK .u8))] (fun _=>.tup []) (fun r=>[.box 75 (.agg [.own 2,.b_ r.dS]),.dead,.row 5 1 (r.bF.map (lfK .u8))]):=eP Tryz.func134
end
end Go.Proofs.YtflpefkohpjjpaaGreatDoor
