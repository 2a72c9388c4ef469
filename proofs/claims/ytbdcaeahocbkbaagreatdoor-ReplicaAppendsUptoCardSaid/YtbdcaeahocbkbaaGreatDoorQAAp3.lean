/- Printed by dec.py. -/
import Derived.Test.YtbdcaeahocbkbaaGreatDoorQAAp2
set_option linter.unusedSimpArgs false
set_option linter.unusedVariables false
namespace Go.Proofs.YtbdcaeahocbkbaaGreatDoor
open Go.RowKit
set_option maxRecDepth 20000
set_option maxHeartbeats 4000000
noncomputable section
def Kv(p_kind:Int):Mo (aQ):=
 .iB (p_kind==2) (.ret (aY 1) (aQ.aiK (aQ.agT (aQ.vJ aQ.z true) true) true))<|
 .iB (p_kind==3) (.ret (aY 1) (aQ.agT (aQ.vJ aQ.z true) true))<|
 .iB (p_kind==4) (.ret (aY 1) (aQ.aiL aQ.z true))<|
 .iB (p_kind==5) (.ret (aY 1) (aQ.vJ aQ.z true))<|
 .iB (p_kind==6) (.ret (aY 1) (aQ.JM (aQ.vJ aQ.z true) true))<|
 .iB (p_kind==7) (.ret (aY 1) (aQ.qP (aQ.vJ aQ.z true) true))<|
 .iB (p_kind==8) (.ret (aY 1) (aQ.zu aQ.z true))<|
 .iB (p_kind==9) (.ret (aY 1) (aQ.zu (aQ.XZ aQ.z true) true))<|
 .iB (p_kind==10) (.ret (aY 1) (aQ.FN (aQ.XZ aQ.z true) true))<|
 .iB (p_kind==11) (.ret (aY 1) (aQ.XZ aQ.z true))<|
 .iB (p_kind==12) (.ret (aY 1) (aQ.Dv (aQ.FN (aQ.XZ aQ.z true) true) true))<|
 .ret (aY 1) (aQ.z)
def akk(p_kind:Int):Option (aQ):=Mo.den (Kv p_kind)
theorem afi(p_kind:Int):FV (akk p_kind) 57 [.i_ p_kind] (fun r=>.dat (aQ.lf1 r)):=cO Tryz.func57
def nI(p_v:ah):Mo (Bool):=
 .aV 4003 (p_v.aK==0) [1,2,10] 1 (p_v.je==0)
def nJ(p_v:ah)(r0:Bool):Mo (Bool):=
 .aV 4008 (r0) [1,2,15] 1 (decide ((p_v.fText:ByteArray)=(⟨#[]⟩:ByteArray)))
def lq(p_v:ah)(r0:Bool):Mo (Bool):=
 .iG 4013 (r0) (.nu p_v.bF ah.lf<|
 .rt [1,2,21] 1 ((p_v.bF.length:Int)==0))<|
 .rt [1,2,21] 1 (false)
def lu(p_v:ah)(r0:Bool):Mo (Bool):=
 .iG 4019 (r0) (.nu p_v.bC aN.lf<|
 .ret ⟨[.kill 0],[2,27],[],1⟩ ((p_v.bC.length:Int)==0))<|
 .ret ⟨[.kill 0],[2,27],[],1⟩ (false)
def akl(p_v:ah):Mo (Bool):=
 .sf Tryz.f91 0 [1,0] 0 8 1 [(1,.ptr 0 0),(2,.b_ false)] [bG p_v] 10 (nI p_v) fun r0=>
 .sb Tryz.f91 0 [1,0] 8 5 1 [(1,.ptr 0 0),(2,.b_ false)] [bG p_v] 10 15 r0 (nJ p_v r0) fun r1=>
 .sb Tryz.f91 0 [1,0] 13 6 1 [(1,.ptr 0 0),(2,.b_ false)] [bG p_v] 15 21 r1 (lq p_v r1) fun r2=>
 .sk Tryz.f91 0 [1,0] 19 6 1 (fun r_=>⟨[(2,.b_ false),(27,.b_ r_)],[.dead]⟩) ⟨[(1,.ptr 0 0),(2,.b_ false),(21,.b_ r2)],[bG p_v]⟩ (lu p_v r2) fun r3=>
 .sk Tryz.f91 0 [1,0] 25 1 1 (fun r_=>⟨[(2,.b_ r3)],[.dead]⟩) ⟨[(2,.b_ false),(27,.b_ r3)],[.dead]⟩ (dG r3) fun r4=>
 .ret (aY 1) (r3)
def Q12(p_v:ah):Option (Bool):=Mo.den (akl p_v)
theorem yh(p_v:ah):FV (Q12 p_v) 91 [.dat (ah.lf1 p_v)] .b_:=cO Tryz.func91
def Yw(p_s:aI):Mo (Bool):=
 .aV 4003 (p_s.jH==0) [1,2,10] 1 (!p_s.kU)
def Yx(p_s:aI)(r0:Bool):Mo (Bool):=
 .aC 4008 (r0) [1,2,15] 1 (yh p_s.rM)
def OH(p_s:aI)(r0:Bool):Mo (Bool):=
 .aV 4013 (r0) [1,2,20] 1 (!p_s.kV)
def OI(p_s:aI)(r0:Bool):Mo (Bool):=
 .aC 4018 (r0) [1,2,25] 1 (yh p_s.rO)
def OJ(p_s:aI)(r0:Bool):Mo (Bool):=
 .iG 4023 (r0) (.nu p_s.iZ ah.lf<|
 .rt [1,2,31] 1 ((p_s.iZ.length:Int)==0))<|
 .rt [1,2,31] 1 (false)
def OL(p_s:aI)(r0:Bool):Mo (Bool):=
 .aV 4029 (r0) [1,2,36] 1 (p_s.mG==0)
def OM(p_s:aI)(r0:Bool):Mo (Bool):=
 .aV 4034 (r0) [1,2,41] 1 (p_s.mJ==0)
def OO(p_s:aI)(r0:Bool):Mo (Bool):=
 .iG 4039 (r0) (.nu p_s.eu lfS<|
 .rt [1,2,47] 1 ((p_s.eu.length:Int)==0))<|
 .rt [1,2,47] 1 (false)
def OQ(p_s:aI)(r0:Bool):Mo (Bool):=
 .iG 4045 (r0) (.nu p_s.dD bH.lf<|
 .rt [1,2,53] 1 ((p_s.dD.length:Int)==0))<|
 .rt [1,2,53] 1 (false)
def OT(p_s:aI)(r0:Bool):Mo (Bool):=
 .aV 4051 (r0) [1,2,58] 1 (!p_s.qJ)
def OU(p_s:aI)(r0:Bool):Mo (Bool):=
 .iG 4056 (r0) (.nu p_s.eP aI.lf<|
 .rt [1,2,64] 1 ((p_s.eP.length:Int)==0))<|
 .rt [1,2,64] 1 (false)
def OV(p_s:aI)(r0:Bool):Mo (Bool):=
 .iG 4062 (r0) (.ret ⟨[.kill 0],[2,69],[],1⟩ (!p_s.jG))<|
 .ret ⟨[.kill 0],[2,69],[],1⟩ (false)
def akm(p_s:aI):Mo (Bool):=
 .sf Tryz.f178 0 [1,0] 0 8 1 [(1,.ptr 0 0),(2,.b_ false)] [gq p_s] 10 (Yw p_s) fun r0=>
 .sb Tryz.f178 0 [1,0] 8 5 1 [(1,.ptr 0 0),(2,.b_ false)] [gq p_s] 10 15 r0 (Yx p_s r0) fun r1=>
 .sb Tryz.f178 0 [1,0] 13 5 1 [(1,.ptr 0 0),(2,.b_ false)] [gq p_s] 15 20 r1 (OH p_s r1) fun r2=>
 .sb Tryz.f178 0 [1,0] 18 5 1 [(1,.ptr 0 0),(2,.b_ false)] [gq p_s] 20 25 r2 (OI p_s r2) fun r3=>
 .sb Tryz.f178 0 [1,0] 23 6 1 [(1,.ptr 0 0),(2,.b_ false)] [gq p_s] 25 31 r3 (OJ p_s r3) fun r4=>
 .sb Tryz.f178 0 [1,0] 29 5 1 [(1,.ptr 0 0),(2,.b_ false)] [gq p_s] 31 36 r4 (OL p_s r4) fun r5=>
 .sb Tryz.f178 0 [1,0] 34 5 1 [(1,.ptr 0 0),(2,.b_ false)] [gq p_s] 36 41 r5 (OM p_s r5) fun r6=>
 .sb Tryz.f178 0 [1,0] 39 6 1 [(1,.ptr 0 0),(2,.b_ false)] [gq p_s] 41 47 r6 (OO p_s r6) fun r7=>
 .sb Tryz.f178 0 [1,0] 45 6 1 [(1,.ptr 0 0),(2,.b_ false)] [gq p_s] 47 53 r7 (OQ p_s r7) fun r8=>
 .sb Tryz.f178 0 [1,0] 51 5 1 [(1,.ptr 0 0),(2,.b_ false)] [gq p_s] 53 58 r8 (OT p_s r8) fun r9=>
 .sb Tryz.f178 0 [1,0] 56 6 1 [(1,.ptr 0 0),(2,.b_ false)] [gq p_s] 58 64 r9 (OU p_s r9) fun r10=>
 .sk Tryz.f178 0 [1,0] 62 5 1 (fun r_=>⟨[(2,.b_ false),(69,.b_ r_)],[.dead]⟩) ⟨[(1,.ptr 0 0),(2,.b_ false),(64,.b_ r10)],[gq p_s]⟩ (OV p_s r10) fun r11=>
 .sk Tryz.f178 0 [1,0] 67 1 1 (fun r_=>⟨[(2,.b_ r11)],[.dead]⟩) ⟨[(2,.b_ false),(69,.b_ r11)],[.dead]⟩ (dG r11) fun r12=>
 .ret (aY 1) (r11)
def Q23(p_s:aI):Option (Bool):=Mo.den (akm p_s)
theorem asV(p_s:aI):FV (Q23 p_s) 178 [.dat (aI.lf1 p_s)] .b_:=cO Tryz.func178
def Yy(p_d:cu):Mo (Bool):=
 .iG 4003 (decide ((p_d.fName:ByteArray)=(⟨#[]⟩:ByteArray))) (.nu p_d.bV aU.lf<|
 .rt [1,2,11] 1 ((p_d.bV.length:Int)==0))<|
 .rt [1,2,11] 1 (false)
def Yz(p_d:cu)(r0:Bool):Mo (Bool):=
 .aC 4009 (r0) [1,2,16] 1 (asV p_d.dW)
def OW(p_d:cu)(r0:Bool):Mo (Bool):=
 .aV 4014 (r0) [1,2,21] 1 (p_d.ou==0)
def OX(p_d:cu)(r0:Bool):Mo (Bool):=
 .iG 4019 (r0) (.ret ⟨[.kill 0],[2,26],[],1⟩ (p_d.jX==0))<|
 .ret ⟨[.kill 0],[2,26],[],1⟩ (false)
def akn(p_d:cu):Mo (Bool):=
 .sf Tryz.f131 0 [1,0] 0 9 1 [(1,.ptr 0 0),(2,.b_ false)] [nV p_d] 11 (Yy p_d) fun r0=>
 .sb Tryz.f131 0 [1,0] 9 5 1 [(1,.ptr 0 0),(2,.b_ false)] [nV p_d] 11 16 r0 (Yz p_d r0) fun r1=>
 .sb Tryz.f131 0 [1,0] 14 5 1 [(1,.ptr 0 0),(2,.b_ false)] [nV p_d] 16 21 r1 (OW p_d r1) fun r2=>
 .sk Tryz.f131 0 [1,0] 19 5 1 (fun r_=>⟨[(2,.b_ false),(26,.b_ r_)],[.dead]⟩) ⟨[(1,.ptr 0 0),(2,.b_ false),(21,.b_ r2)],[nV p_d]⟩ (OX p_d r2) fun r3=>
 .sk Tryz.f131 0 [1,0] 24 1 1 (fun r_=>⟨[(2,.b_ r3)],[.dead]⟩) ⟨[(2,.b_ false),(26,.b_ r3)],[.dead]⟩ (dG r3) fun r4=>
 .ret (aY 1) (r3)
def Q94(p_d:cu):Option (Bool):=Mo.den (akn p_d)
theorem asW(p_d:cu):FV (Q94 p_d) 131 [.dat (cu.lf1 p_d)] .b_:=cO Tryz.func131
def oG(p_e:aT):Mo (Bool):=
 .iG 4003 (p_e.fOp==0) (.nu p_e.cZ lfS<|
 .rt [1,2,11] 1 ((p_e.cZ.length:Int)==0))<|
 .rt [1,2,11] 1 (false)
def oH(p_e:aT)(r0:Bool):Mo (Bool):=
 .aV 4009 (r0) [1,2,16] 1 (decide ((p_e.fName:ByteArray)=(⟨#[]⟩:ByteArray)))
def mP(p_e:aT)(r0:Bool):Mo (Bool):=
 .iG 4014 (r0) (.nu p_e.eH lfS<|
 .rt [1,2,22] 1 ((p_e.eH.length:Int)==0))<|
 .rt [1,2,22] 1 (false)
def OY(p_e:aT)(r0:Bool):Mo (Bool):=
 .aC 4020 (r0) [1,2,27] 1 (yh p_e.fArg)
def mQ(p_e:aT)(r0:Bool):Mo (Bool):=
 .aV 4025 (r0) [1,2,32] 1 (p_e.fN==0)
def mV(p_e:aT)(r0:Bool):Mo (Bool):=
 .iG 4030 (r0) (.nu p_e.bJ aT.lf<|
 .ret ⟨[.kill 0],[2,38],[],1⟩ ((p_e.bJ.length:Int)==0))<|
 .ret ⟨[.kill 0],[2,38],[],1⟩ (false)
def ako(p_e:aT):Mo (Bool):=
 .sf Tryz.f225 0 [1,0] 0 9 1 [(1,.ptr 0 0),(2,.b_ false)] [dJ p_e] 11 (oG p_e) fun r0=>
 .sb Tryz.f225 0 [1,0] 9 5 1 [(1,.ptr 0 0),(2,.b_ false)] [dJ p_e] 11 16 r0 (oH p_e r0) fun r1=>
 .sb Tryz.f225 0 [1,0] 14 6 1 [(1,.ptr 0 0),(2,.b_ false)] [dJ p_e] 16 22 r1 (mP p_e r1) fun r2=>
 .sb Tryz.f225 0 [1,0] 20 5 1 [(1,.ptr 0 0),(2,.b_ false)] [dJ p_e] 22 27 r2 (OY p_e r2) fun r3=>
 .sb Tryz.f225 0 [1,0] 25 5 1 [(1,.ptr 0 0),(2,.b_ false)] [dJ p_e] 27 32 r3 (mQ p_e r3) fun r4=>
 .sk Tryz.f225 0 [1,0] 30 6 1 (fun r_=>⟨[(2,.b_ false),(38,.b_ r_)],[.dead]⟩) ⟨[(1,.ptr 0 0),(2,.b_ false),(32,.b_ r4)],[dJ p_e]⟩ (mV p_e r4) fun r5=>
 .sk Tryz.f225 0 [1,0] 36 1 1 (fun r_=>⟨[(2,.b_ r5)],[.dead]⟩) ⟨[(2,.b_ false),(38,.b_ r5)],[.dead]⟩ (dG r5) fun r6=>
 .ret (aY 1) (r5)
def Q11(p_e:aT):Option (Bool):=Mo.den (ako p_e)
theorem asX(p_e:aT):FV (Q11 p_e) 225 [.dat (aT.lf1 p_e)] .b_:=cO Tryz.func225
def um(p_p:aP):Mo (Bool):=
 .iG 4003 (p_p.fOp==0) (.nu p_p.cZ lfS<|
 .rt [1,2,11] 1 ((p_p.cZ.length:Int)==0))<|
 .rt [1,2,11] 1 (false)
def YA(p_p:aP)(r0:Bool):Mo (Bool):=
 .aC 4009 (r0) [1,2,16] 1 (yh p_p.fArg)
def zA(p_p:aP)(r0:Bool):Mo (Bool):=
 .iG 4014 (r0) (.nu p_p.fArgs ah.lf<|
 .rt [1,2,22] 1 ((p_p.fArgs.length:Int)==0))<|
 .rt [1,2,22] 1 (false)
def zB(p_p:aP)(r0:Bool):Mo (Bool):=
 .aV 4020 (r0) [1,2,27] 1 (p_p.fN==0)
def zC(p_p:aP)(r0:Bool):Mo (Bool):=
 .aV 4025 (r0) [1,2,32] 1 (p_p.fM==0)
def zF(p_p:aP)(r0:Bool):Mo (Bool):=
 .aV 4030 (r0) [1,2,38] 1 (p_p.eF.aK==0)
def zG(p_p:aP)(r0:Bool):Mo (Bool):=
 .iG 4036 (r0) (.nu p_p.eF.bK dO.lf<|
 .rt [1,2,45] 1 ((p_p.eF.bK.length:Int)==0))<|
 .rt [1,2,45] 1 (false)
def zH(p_p:aP)(r0:Bool):Mo (Bool):=
 .aV 4043 (r0) [1,2,51] 1 (p_p.eF.fR==0)
def OZ(p_p:aP)(r0:Bool):Mo (Bool):=
 .aC 4049 (r0) [1,2,56] 1 (asX p_p.fExpr)
def zJ(p_p:aP)(r0:Bool):Mo (Bool):=
 .iG 4054 (r0) (.nu p_p.bJ aP.lf<|
 .ret ⟨[.kill 0],[2,62],[],1⟩ ((p_p.bJ.length:Int)==0))<|
 .ret ⟨[.kill 0],[2,62],[],1⟩ (false)
def akp(p_p:aP):Mo (Bool):=
 .sf Tryz.f179 0 [1,0] 0 9 1 [(1,.ptr 0 0),(2,.b_ false)] [dB p_p] 11 (um p_p) fun r0=>
 .sb Tryz.f179 0 [1,0] 9 5 1 [(1,.ptr 0 0),(2,.b_ false)] [dB p_p] 11 16 r0 (YA p_p r0) fun r1=>
 .sb Tryz.f179 0 [1,0] 14 6 1 [(1,.ptr 0 0),(2,.b_ false)] [dB p_p] 16 22 r1 (zA p_p r1) fun r2=>
 .sb Tryz.f179 0 [1,0] 20 5 1 [(1,.ptr 0 0),(2,.b_ false)] [dB p_p] 22 27 r2 (zB p_p r2) fun r3=>
 .sb Tryz.f179 0 [1,0] 25 5 1 [(1,.ptr 0 0),(2,.b_ false)] [dB p_p] 27 32 r3 (zC p_p r3) fun r4=>
 .sb Tryz.f179 0 [1,0] 30 6 1 [(1,.ptr 0 0),(2,.b_ false)] [dB p_p] 32 38 r4 (zF p_p r4) fun r5=>
 .sb Tryz.f179 0 [1,0] 36 7 1 [(1,.ptr 0 0),(2,.b_ false)] [dB p_p] 38 45 r5 (zG p_p r5) fun r6=>
 .sb Tryz.f179 0 [1,0] 43 6 1 [(1,.ptr 0 0),(2,.b_ false)] [dB p_p] 45 51 r6 (zH p_p r6) fun r7=>
 .sb Tryz.f179 0 [1,0] 49 5 1 [(1,.ptr 0 0),(2,.b_ false)] [dB p_p] 51 56 r7 (OZ p_p r7) fun r8=>
 .sk Tryz.f179 0 [1,0] 54 6 1 (fun r_=>⟨[(2,.b_ false),(62,.b_ r_)],[.dead]⟩) ⟨[(1,.ptr 0 0),(2,.b_ false),(56,.b_ r8)],[dB p_p]⟩ (zJ p_p r8) fun r9=>
 .sk Tryz.f179 0 [1,0] 60 1 1 (fun r_=>⟨[(2,.b_ r9)],[.dead]⟩) ⟨[(2,.b_ false),(62,.b_ r9)],[.dead]⟩ (dG r9) fun r10=>
 .ret (aY 1) (r9)
def Q20(p_p:aP):Option (Bool):=Mo.den (akp p_p)
theorem asY(p_p:aP):FV (Q20 p_p) 179 [.dat (aP.lf1 p_p)] .b_:=cO Tryz.func179
def YB(p_x:aU):Mo (Bool):=
 .aV 4003 (decide ((p_x.fName:ByteArray)=(⟨#[]⟩:ByteArray))) [1,2,10] 1 (p_x.aK==0)
def YC(p_x:aU)(r0:Bool):Mo (Bool):=
 .iG 4008 (r0) (.nu p_x.gU bf.lf<|
 .rt [1,2,16] 1 ((p_x.gU.length:Int)==0))<|
 .rt [1,2,16] 1 (false)
def O1(p_x:aU)(r0:Bool):Mo (Bool):=
 .aV 4014 (r0) [1,2,21] 1 (!p_x.jG)
def O4(p_x:aU)(r0:Bool):Mo (Bool):=
 .aV 4019 (r0) [1,2,26] 1 (!p_x.qI)
def O5(p_x:aU)(r0:Bool):Mo (Bool):=
 .aV 4024 (r0) [1,2,31] 1 (!p_x.lQ)
def O6(p_x:aU)(r0:Bool):Mo (Bool):=
 .iG 4029 (r0) (.cl (asY p_x.jr) fun r1 _=>
 .ret ⟨[.kill 0],[2,36],[],1⟩ (r1))<|
 .ret ⟨[.kill 0],[2,36],[],1⟩ (false)
def akq(p_x:aU):Mo (Bool):=
 .sf Tryz.f132 0 [1,0] 0 8 1 [(1,.ptr 0 0),(2,.b_ false)] [mY p_x] 10 (YB p_x) fun r0=>
 .sb Tryz.f132 0 [1,0] 8 6 1 [(1,.ptr 0 0),(2,.b_ false)] [mY p_x] 10 16 r0 (YC p_x r0) fun r1=>
 .sb Tryz.f132 0 [1,0] 14 5 1 [(1,.ptr 0 0),(2,.b_ false)] [mY p_x] 16 21 r1 (O1 p_x r1) fun r2=>
 .sb Tryz.f132 0 [1,0] 19 5 1 [(1,.ptr 0 0),(2,.b_ false)] [mY p_x] 21 26 r2 (O4 p_x r2) fun r3=>
 .sb Tryz.f132 0 [1,0] 24 5 1 [(1,.ptr 0 0),(2,.b_ false)] [mY p_x] 26 31 r3 (O5 p_x r3) fun r4=>
 .sk Tryz.f132 0 [1,0] 29 5 1 (fun r_=>⟨[(2,.b_ false),(36,.b_ r_)],[.dead]⟩) ⟨[(1,.ptr 0 0),(2,.b_ false),(31,.b_ r4)],[mY p_x]⟩ (O6 p_x r4) fun r5=>
 .sk Tryz.f132 0 [1,0] 34 1 1 (fun r_=>⟨[(2,.b_ r5)],[.dead]⟩) ⟨[(2,.b_ false),(36,.b_ r5)],[.dead]⟩ (dG r5) fun r6=>
 .ret (aY 1) (r5)
def Q57(p_x:aU):Option (Bool):=Mo.den (akq p_x)
theorem asZ(p_x:aU):FV (Q57 p_x) 132 [.dat (aU.lf1 p_x)] .b_:=cO Tryz.func132
def YD(p_w:aH):Mo (Bool):=
 .aV 4003 (p_w.aK==0) [1,2,10] 1 (decide ((p_w.iO:ByteArray)=(⟨#[]⟩:ByteArray)))
def YE(p_w:aH)(r0:Bool):Mo (Bool):=
 .aC 4008 (r0) [1,2,15] 1 (yh p_w.jh)
def O7(p_w:aH)(r0:Bool):Mo (Bool):=
 .aC 4013 (r0) [1,2,20] 1 (yh p_w.bC)
def O8(p_w:aH)(r0:Bool):Mo (Bool):=
 .aC 4018 (r0) [1,2,25] 1 (yh p_w.eX)
def O9(p_w:aH)(r0:Bool):Mo (Bool):=
 .aC 4023 (r0) [1,2,30] 1 (asW p_w.kM)
def Pe(p_w:aH)(r0:Bool):Mo (Bool):=
 .aC 4028 (r0) [1,2,35] 1 (asZ p_w.bP)
def Pg(p_w:aH)(r0:Bool):Mo (Bool):=
 .aV 4033 (r0) [1,2,40] 1 (decide ((p_w.oz:ByteArray)=(⟨#[]⟩:ByteArray)))
def Ph(p_w:aH)(r0:Bool):Mo (Bool):=
 .aV 4038 (r0) [1,2,45] 1 (p_w.dQ==0)
def Pj(p_w:aH)(r0:Bool):Mo (Bool):=
 .iG 4043 (r0) (.nu p_w.dh aH.lf<|
 .rt [1,2,51] 1 ((p_w.dh.length:Int)==0))<|
 .rt [1,2,51] 1 (false)
def Pm(p_w:aH)(r0:Bool):Mo (Bool):=
 .iG 4049 (r0) (.nu p_w.dZ lfI<|
 .rt [1,2,57] 1 ((p_w.dZ.length:Int)==0))<|
 .rt [1,2,57] 1 (false)
def Pn(p_w:aH)(r0:Bool):Mo (Bool):=
 .iG 4055 (r0) (.ret ⟨[.kill 0],[2,62],[],1⟩ (!p_w.iK))<|
 .ret ⟨[.kill 0],[2,62],[],1⟩ (false)
def akr(p_w:aH):Mo (Bool):=
 .sf Tryz.f88 0 [1,0] 0 8 1 [(1,.ptr 0 0),(2,.b_ false)] [dR p_w] 10 (YD p_w) fun r0=>
 .sb Tryz.f88 0 [1,0] 8 5 1 [(1,.ptr 0 0),(2,.b_ false)] [dR p_w] 10 15 r0 (YE p_w r0) fun r1=>
 .sb Tryz.f88 0 [1,0] 13 5 1 [(1,.ptr 0 0),(2,.b_ false)] [dR p_w] 15 20 r1 (O7 p_w r1) fun r2=>
 .sb Tryz.f88 0 [1,0] 18 5 1 [(1,.ptr 0 0),(2,.b_ false)] [dR p_w] 20 25 r2 (O8 p_w r2) fun r3=>
 .sb Tryz.f88 0 [1,0] 23 5 1 [(1,.ptr 0 0),(2,.b_ false)] [dR p_w] 25 30 r3 (O9 p_w r3) fun r4=>
 .sb Tryz.f88 0 [1,0] 28 5 1 [(1,.ptr 0 0),(2,.b_ false)] [dR p_w] 30 35 r4 (Pe p_w r4) fun r5=>
 .sb Tryz.f88 0 [1,0] 33 5 1 [(1,.ptr 0 0),(2,.b_ false)] [dR p_w] 35 40 r5 (Pg p_w r5) fun r6=>
 .sb Tryz.f88 0 [1,0] 38 5 1 [(1,.ptr 0 0),(2,.b_ false)] [dR p_w] 40 45 r6 (Ph p_w r6) fun r7=>
 .sb Tryz.f88 0 [1,0] 43 6 1 [(1,.ptr 0 0),(2,.b_ false)] [dR p_w] 45 51 r7 (Pj p_w r7) fun r8=>
 .sb Tryz.f88 0 [1,0] 49 6 1 [(1,.ptr 0 0),(2,.b_ false)] [dR p_w] 51 57 r8 (Pm p_w r8) fun r9=>
 .sk Tryz.f88 0 [1,0] 55 5 1 (fun r_=>⟨[(2,.b_ false),(62,.b_ r_)],[.dead]⟩) ⟨[(1,.ptr 0 0),(2,.b_ false),(57,.b_ r9)],[dR p_w]⟩ (Pn p_w r9) fun r10=>
 .sk Tryz.f88 0 [1,0] 60 1 1 (fun r_=>⟨[(2,.b_ r10)],[.dead]⟩) ⟨[(2,.b_ false),(62,.b_ r10)],[.dead]⟩ (dG r10) fun r11=>
 .ret (aY 1) (r10)
def Q29(p_w:aH):Option (Bool):=Mo.den (akr p_w)
theorem as1(p_w:aH):FV (Q29 p_w) 88 [.dat (aH.lf1 p_w)] .b_:=cO Tryz.func88
def Kw(p_w:aH)(r0:aQ):Mo (aH):=
 .iB (r0.o8) (.rt [1,3] 2 (aH.abn (aH.nG p_w 0) ⟨#[]⟩))<|
 .rt [1,3] 2 (aH.nG p_w 0)
def Ky(r0:aQ)(r1:aH):Mo (aH):=
 .iB (r0.Du) (.ret ⟨[.norm 0],[1,3],[],2⟩ (aH.UJ (aH.UF (aH.arO r1 (ah.mk 0 0 ⟨#[]⟩ [] [])) (ah.mk 0 0 ⟨#[]⟩ [] [])) false))<|
 .rt [1,3] 2 (r1)
def Gt(r0:aQ)(r1:aH):Mo (aH):=
 .iB (r0.IC) (.ret ⟨[.norm 0],[1,3],[],2⟩ (aH.arP r1 (ah.mk 0 0 ⟨#[]⟩ [] [])))<|
 .rt [1,3] 2 (r1)
def Gu(r0:aQ)(r1:aH):Mo (aH):=
 .iB (r0.IE) (.ret ⟨[.norm 0],[1,3],[],2⟩ (aH.arQ r1 (cu.mk ⟨#[]⟩ [] aI.z 0 0)))<|
 .rt [1,3] 2 (r1)
def Gv(r0:aQ)(r1:aH):Mo (aH):=
 .iB (r0.qB) (.ret ⟨[.norm 0],[1,3],[],2⟩ (aH.tH r1 aU.z))<|
 .rt [1,3] 2 (r1)
def Gw(r0:aQ)(r1:aH):Mo (aH):=
 .iB (r0.ji) (.rt [1,3] 2 (aH.tH r1 (aU.Ox r1.bP ⟨#[]⟩)))<|
 .rt [1,3] 2 (r1)
def Gx(r0:aQ)(r1:aH):Mo (aH):=
 .iB (r0.FM) (.rt [1,3] 2 (aH.arR r1 ⟨#[]⟩))<|
 .rt [1,3] 2 (r1)
def Gy(r0:aQ)(r1:aH):Mo (aH):=
 .iB (r0.o9) (.rt [1,3] 2 (aH.abo r1 0))<|
 .rt [1,3] 2 (r1)
def Gz(r0:aQ)(r1:aH):Mo (aH):=
 .iB (r0.mM) (.ret ⟨[.norm 0],[1,3],[],2⟩ (aH.UG r1 []))<|
 .rt [1,3] 2 (r1)
def GH(r0:aQ)(r1:aH):Mo (aH):=
 .iB (r0.mO) (.ret ⟨[.norm 0],[1],[],2⟩ (aH.UH r1 []))<|
 .rt [1] 2 (r1)
def aks(p_w:aH):Mo (Bool):=
 .cl (afi p_w.aK) fun r0 _=>
 .jk Tryz.f58 0 [1,1,1,0,1] 1 (fun r_=>⟨[(1,.ptr 0 0),(3,.ptr 1 0)],[dR r_,.box 105 (.agg ((aQ.lf1 r0).map AV.lf))]⟩) ⟨[(1,.ptr 0 0),(3,.ptr 1 0),(9,.b_ r0.o8)],[.box 52 (.dat (aH.lf1 (aH.nG p_w 0))),.box 105 (.agg ((aQ.lf1 r0).map AV.lf))]⟩ (Kw p_w r0) fun r1=>
 .jk Tryz.f58 0 [1,1,1,1,0,1] 1 (fun r_=>⟨[(1,.ptr 0 0),(3,.ptr 1 0)],[dR r_,.box 105 (.agg ((aQ.lf1 r0).map AV.lf))]⟩) ⟨[(1,.ptr 0 0),(3,.ptr 1 0),(12,.b_ r0.Du)],[dR r1,.box 105 (.agg ((aQ.lf1 r0).map AV.lf))]⟩ (Ky r0 r1) fun r2=>
 .jk Tryz.f58 0 [1,1,1,1,1,0,1] 1 (fun r_=>⟨[(1,.ptr 0 0),(3,.ptr 1 0)],[dR r_,.box 105 (.agg ((aQ.lf1 r0).map AV.lf))]⟩) ⟨[(1,.ptr 0 0),(3,.ptr 1 0),(19,.b_ r0.IC)],[dR r2,.box 105 (.agg ((aQ.lf1 r0).map AV.lf))]⟩ (Gt r0 r2) fun r3=>
 .jk Tryz.f58 0 [1,1,1,1,1,1,0,1] 1 (fun r_=>⟨[(1,.ptr 0 0),(3,.ptr 1 0)],[dR r_,.box 105 (.agg ((aQ.lf1 r0).map AV.lf))]⟩) ⟨[(1,.ptr 0 0),(3,.ptr 1 0),(23,.b_ r0.IE)],[dR r3,.box 105 (.agg ((aQ.lf1 r0).map AV.lf))]⟩ (Gu r0 r3) fun r4=>
 .jk Tryz.f58 0 [1,1,1,1,1,1,1,0,1] 1 (fun r_=>⟨[(1,.ptr 0 0),(3,.ptr 1 0)],[dR r_,.box 105 (.agg ((aQ.lf1 r0).map AV.lf))]⟩) ⟨[(1,.ptr 0 0),(3,.ptr 1 0),(27,.b_ r0.qB)],[dR r4,.box 105 (.agg ((aQ.lf1 r0).map AV.lf))]⟩ (Gv r0 r4) fun r5=>
 .jk Tryz.f58 0 [1,1,1,1,1,1,1,1,0,1] 1 (fun r_=>⟨[(1,.ptr 0 0),(3,.ptr 1 0)],[dR r_,.box 105 (.agg ((aQ.lf1 r0).map AV.lf))]⟩) ⟨[(1,.ptr 0 0),(3,.ptr 1 0),(31,.b_ r0.ji)],[dR r5,.box 105 (.agg ((aQ.lf1 r0).map AV.lf))]⟩ (Gw r0 r5) fun r6=>
 .jk Tryz.f58 0 [1,1,1,1,1,1,1,1,1,0,1] 1 (fun r_=>⟨[(1,.ptr 0 0),(3,.ptr 1 0)],[dR r_,.box 105 (.agg ((aQ.lf1 r0).map AV.lf))]⟩) ⟨[(1,.ptr 0 0),(3,.ptr 1 0),(35,.b_ r0.FM)],[dR r6,.box 105 (.agg ((aQ.lf1 r0).map AV.lf))]⟩ (Gx r0 r6) fun r7=>
 .jk Tryz.f58 0 [1,1,1,1,1,1,1,1,1,1,0,1] 1 (fun r_=>⟨[(1,.ptr 0 0),(3,.ptr 1 0)],[dR r_,.box 105 (.agg ((aQ.lf1 r0).map AV.lf))]⟩) ⟨[(1,.ptr 0 0),(3,.ptr 1 0),(38,.b_ r0.o9)],[dR r7,.box 105 (.agg ((aQ.lf1 r0).map AV.lf))]⟩ (Gy r0 r7) fun r8=>
 .jk Tryz.f58 0 [1,1,1,1,1,1,1,1,1,1,1,0,1] 1 (fun r_=>⟨[(1,.ptr 0 0),(3,.ptr 1 0)],[dR r_,.box 105 (.agg ((aQ.lf1 r0).map AV.lf))]⟩) ⟨[(1,.ptr 0 0),(3,.ptr 1 0),(41,.b_ r0.mM)],[dR r8,.box 105 (.agg ((aQ.lf1 r0).map AV.lf))]⟩ (Gz r0 r8) fun r9=>
 .jy [.kill 1] Tryz.f58 0 [1,1,1,1,1,1,1,1,1,1,1,1,0,1] 1 (.normal) (fun r_=>⟨[(1,.ptr 0 0)],[dR r_,.dead]⟩) ⟨[(1,.ptr 0 0),(44,.b_ r0.mO)],[dR r9,.dead]⟩ (GH r0 r9) fun r10=>
 .cl (as1 r10) fun r11 _=>
 .ret (aY 1) (r11)
def Q25(p_w:aH):Option (Bool):=Mo.den (aks p_w)
theorem as2(p_w:aH):FV (Q25 p_w) 58 [.dat (aH.lf1 p_w)] .b_:=cO Tryz.func58
def Po(p_w:aH):Mo (Int):=
 .iB (p_w.aK==12) (.rt [1,3] 1 (0))<|
 .rt [1,3] 1 (1)
def acF(p_w:aH):Mo (Bool):=
 .jk Tryz.f59 0 [1,1,0,1] 1 (fun r_=>⟨[(1,.ptr 0 0),(3,.i_ r_)],[dR p_w]⟩) ⟨[(1,.ptr 0 0),(3,.i_ 1),(6,.lf (.bool (p_w.aK==12)))],[dR p_w]⟩ (Po p_w) fun r0=>
 .iG 10004 (decide ((r0:Int)≤p_w.dQ)) (.ret (aY 1) (decide ((p_w.dQ:Int)≤1099511627776)))<|
 .ret (aY 1) (false)
def as3(p_w:aH):Option (Bool):=Mo.den (acF p_w)
theorem aor(p_w:aH):FV (as3 p_w) 59 [.dat (aH.lf1 p_w)] .b_:=cO Tryz.func59
def Kz(p_l:List Int)(v0:Int)(x0:Int):Mo (Bool):=
 .oV 10002 (decide ((x0:Int)<0)) [0,3,4,5,6,7,17] 0 (decide ((8:Int)≤x0))
def KA(p_l:List Int)(r0:Bool)(v0:Int)(x0:Int):Mo (Bool):=
 .iG 10006 (r0) (.rt [0,5,6,7,30] 0 (true))<|
 .iG 10009 (decide ((0:Int)<v0)) (.gx lI_ p_l (IntKind.wrap .i64 (v0-1)) fun x1 _=>
 .rt [0,5,6,7,30] 0 (decide ((x0:Int)≤x1)))<|
 .rt [0,5,6,7,30] 0 (false)
def uo(p_l:List Int):(Int)→Mo ((Int)⊕(Unit⊕Unit)):=fun(v0)=>
 .iB (decide ((v0:Int)<(p_l.length:Int))) (.gx lI_ p_l v0 fun x0 _=>
 .sf Tryz.f60 0 [1,0,1,0,0,1,1,0,0,1,0] 0 6 4 [(0,.lf (.rows 1 (p_l.map lfI))),(3,.i_ v0),(4,.i_ x0),(5,.lf (.rows 1 (p_l.map lfI))),(6,.i_ (p_l.length:Int)),(7,.i_ v0)] [] 17 (Kz p_l v0 x0) fun r0=>
 .sk Tryz.f60 0 [1,0,1,0,0,1,1,0,0,1,0] 6 13 4 (fun r_=>⟨[(0,.lf (.rows 1 (p_l.map lfI))),(5,.lf (.rows 1 (p_l.map lfI))),(6,.i_ (p_l.length:Int)),(7,.i_ v0),(30,.b_ r_)],[]⟩) ⟨[(0,.lf (.rows 1 (p_l.map lfI))),(3,.i_ v0),(4,.i_ x0),(5,.lf (.rows 1 (p_l.map lfI))),(6,.i_ (p_l.length:Int)),(7,.i_ v0),(17,.b_ r0)],[]⟩ (KA p_l r0 v0 x0) fun r1=>
 .iB (r1) (.rt [2] 0 (.inr (.inl ())))<|
 .rt [0,5,6,7] 0 (.inl (IntKind.wrap .i64 (v0+1))))<|
 .rt [0] 0 (.inr (.inr (())))
def U9(p_l:List Int)(v0:Int):Option (Unit⊕Unit):=bQ (fun v_=>(uo p_l v_).den) FU (v0)
def akt(p_l:List Int):Mo (Bool):=
 .nu p_l lfI<|
 .l2m [] Tryz.f60 0 [1,0,1,0] 0 (fun(v0)=>⟨[(0,.lf (.rows 1 (p_l.map lfI))),(5,.lf (.rows 1 (p_l.map lfI))),(6,.i_ (p_l.length:Int)),(7,.i_ v0)],[]⟩) .ret (fun _=>⟨[(2,.b_ false)],[]⟩) (.exit 0) (fun _=>⟨[(0,.lf (.rows 1 (p_l.map lfI)))],[]⟩) (U9 p_l 0) (uo p_l) (0) (fun o0=>
 .ret (aY 1) (false)) fun o1=>
 .nu p_l lfI<|
 .ret (aY 1) (decide ((0:Int)<(p_l.length:Int)))
def Q48(p_l:List Int):Option (Bool):=Mo.den (akt p_l)
theorem as4(p_l:List Int):FV (Q48 p_l) 60 [.lf (.rows 1 (p_l.map lfI))] .b_:=cO Tryz.func60
abbrev Va(m:ah→Int→Option (Int)):Prop:=∀p_v p_most,FV (m p_v p_most) 226 [.dat (ah.lf1 p_v),.i_ p_most] .i_
abbrev afj(m:ah→Int→Int→Option (Int×Int)):Prop:=∀p_v p_b0 p_b1,FH (m p_v p_b0 p_b1) 270 [.dat (ah.lf1 p_v),.clo 271 [.ptr 0 0,.ptr 1 0]] [.box 3 (.dat [(.int .i64 p_b0)]),.box 3 (.dat [(.int .i64 p_b1)])] (fun _=>.tup []) (fun r=>[.box 3 (.dat [(.int .i64 r.1)]),.box 3 (.dat [(.int .i64 r.2)])])
abbrev afk(m:ah→Int→Int→Option (Bool×Int×Int)):Prop:=∀p_p p_b0 p_b1,FH (m p_p p_b0 p_b1) 271 [.dat (ah.lf1 p_p),.ptr 0 0,.ptr 1 0] [.box 3 (.dat [(.int .i64 p_b0)]),.box 3 (.dat [(.int .i64 p_b1)])] (fun r=>.b_ r.1) (fun r=>[.box 3 (.dat [(.int .i64 r.2.1)]),.box 3 (.dat [(.int .i64 r.2.2)])])
structure IG where
 m1:(p_v:ah)→(p_most:Int)→Option (Int)
 ok1:Va m1
 m2:(p_v:ah)→(p_b0:Int)→(p_b1:Int)→Option (Int×Int)
 ok2:afj m2
 m3:(p_p:ah)→(p_b0:Int)→(p_b1:Int)→Option (Bool×Int×Int)
 ok3:afk m3
def Vb(R_:IG)(p_v:ah)(p_most:Int):Mo (Int):=
 .iB (1==p_most) (.ret (aY 1) (1))<|
 .cH [2,1] (R_.ok2 p_v 1 p_most) fun r0 _=>
 .ret (aY 1) (r0.1)
theorem aku(R_:IG):Va fun p_v p_most=>Mo.den (Vb R_ p_v p_most):=fun _ _=>cO Tryz.func226
def zK(R_:IG)(p_v:ah):(Int×Int×Int)→Mo ((Int×Int×Int)⊕(Int×Int)⊕(Int×Int)):=fun(v0,v1,v2)=>
 .iB (decide ((v0:Int)<(p_v.bF.length:Int))) (.gx ah.aX p_v.bF v0 fun x0 _=>
 .say [.at_ 14 2,.tod 20] ok0<|
 .cH [0,1] (R_.ok3 x0 v1 v2) fun r0 _=>
 .iB (!r0.1) (.rt [] 3 (.inr (.inl (r0.2.1,r0.2.2))))<|
 .rt [1,13,14,15] 3 (.inl (IntKind.wrap .i64 (v0+1),r0.2.1,r0.2.2)))<|
 .rt [] 3 (.inr (.inr ((v1,v2))))
def afl(R_:IG)(p_v:ah)(v0:Int)(v1:Int)(v2:Int):Option ((Int×Int)⊕(Int×Int)):=bQ (fun v_=>(zK R_ p_v v_).den) FU (v0,v1,v2)
def zM(R_:IG)(p_v:ah):(Int×Int×Int)→Mo ((Int×Int×Int)⊕(Int×Int)⊕(Int×Int)):=fun(v0,v1,v2)=>
 .iB (decide ((v0:Int)<(p_v.bC.length:Int))) (.gx aN.aX p_v.bC v0 fun x0 _=>
 .say [.at_ 26 3,.tod 35] ok0<|
 .cH [0,1] (R_.ok3 x0.fValue v1 v2) fun r0 _=>
 .iB (!r0.1) (.rt [] 3 (.inr (.inl (r0.2.1,r0.2.2))))<|
 .rt [1,27,28,29] 3 (.inl (IntKind.wrap .i64 (v0+1),r0.2.1,r0.2.2)))<|
 .rt [] 3 (.inr (.inr ((v1,v2))))
def afm(R_:IG)(p_v:ah)(v0:Int)(v1:Int)(v2:Int):Option ((Int×Int)⊕(Int×Int)):=bQ (fun v_=>(zM R_ p_v v_).den) FU (v0,v1,v2)
def KC(R_:IG)(p_v:ah)(p_b0:Int)(p_b1:Int):Mo (Int×Int):=
 .iB (p_v.aK==6) (.nu p_v.bF ah.lf<|
 .l2m [.kill 2] Tryz.f270 2 [1,1,0,1,0,1,0] 0 (fun(v0,v1,v2)=>⟨[(1,.clo 271 [.ptr 0 0,.ptr 1 0]),(13,.lf (.rows 5 (p_v.bF.map ah.lf))),(14,.i_ (p_v.bF.length:Int)),(15,.i_ v0)],[.box 3 (.dat [(.int .i64 v1)]),.box 3 (.dat [(.int .i64 v2)]),.dead]⟩) .ret (fun o_=>⟨[],[.box 3 (.dat [(.int .i64 o_.1)]),.box 3 (.dat [(.int .i64 o_.2)]),.dead]⟩) (.exit 1) (fun o_=>⟨[],[.box 3 (.dat [(.int .i64 o_.1)]),.box 3 (.dat [(.int .i64 o_.2)]),.dead]⟩) (afl R_ p_v 0 p_b0 p_b1) (zK R_ p_v) (0,p_b0,p_b1) (fun o0=>
 .rt [] 2 (o0.1,o0.2)) fun o1=>
 .rt [] 2 (o1.1,o1.2))<|
 .iB (p_v.aK==5) (.nu p_v.bC aN.lf<|
 .l2m [.kill 2] Tryz.f270 2 [1,1,0,1,1,1,0,1,0] 0 (fun(v3,v4,v5)=>⟨[(1,.clo 271 [.ptr 0 0,.ptr 1 0]),(27,.lf (.rows 6 (p_v.bC.map aN.lf))),(28,.i_ (p_v.bC.length:Int)),(29,.i_ v3)],[.box 3 (.dat [(.int .i64 v4)]),.box 3 (.dat [(.int .i64 v5)]),.dead]⟩) .ret (fun o_=>⟨[],[.box 3 (.dat [(.int .i64 o_.1)]),.box 3 (.dat [(.int .i64 o_.2)]),.dead]⟩) (.exit 3) (fun o_=>⟨[],[.box 3 (.dat [(.int .i64 o_.1)]),.box 3 (.dat [(.int .i64 o_.2)]),.dead]⟩) (afm R_ p_v 0 p_b0 p_b1) (zM R_ p_v) (0,p_b0,p_b1) (fun o2=>
 .rt [] 2 (o2.1,o2.2)) fun o3=>
 .rt [] 2 (o3.1,o3.2))<|
 .ret ⟨[.kill 2],[],[],2⟩ (p_b0,p_b1)
theorem akv(R_:IG):afj fun p_v p_b0 p_b1=>Mo.den (KC R_ p_v p_b0 p_b1):=fun _ _ _=>ig Tryz.func270
def Vd(R_:IG)(p_p:ah)(p_b0:Int)(p_b1:Int):Mo (Bool×Int×Int):=
 .say [.order [(true,0),(true,1),(true,2),(true,3),(true,4),(false,5),(true,6),(false,7)] (some 7) []] ok0<|
 .cl (R_.ok1 p_p (IntKind.wrap .i64 (p_b1-p_b0))) fun r0 _=>
 .ret ⟨[.kill 2],[0],[],2⟩ (decide ((IntKind.wrap .i64 (p_b0+r0):Int)<p_b1),IntKind.wrap .i64 (p_b0+r0),p_b1)
theorem akw(R_:IG):afk fun p_p p_b0 p_b1=>Mo.den (Vd R_ p_p p_b0 p_b1):=fun _ _ _=>ig Tryz.func271
def oI:Nat→IG
 |0=>{ m1:=fun p_v p_most=>none,ok1:=fun _ _ _ h=>(by cases h),m2:=fun p_v p_b0 p_b1=>none,ok2:=fun _ _ _ _ h=>(by cases h),m3:=fun p_p p_b0 p_b1=>none,ok3:=fun _ _ _ _ h=>(by cases h) }
 |n_+1=>{ m1:=fun p_v p_most=>Mo.den (Vb (oI n_) p_v p_most),ok1:=aku (oI n_),m2:=fun p_v p_b0 p_b1=>Mo.den (KC (oI n_) p_v p_b0 p_b1),ok2:=akv (oI n_),m3:=fun p_p p_b0 p_b1=>Mo.den (Vd (oI n_) p_p p_b0 p_b1),ok3:=akw (oI n_) }
def avr(p_v:ah)(p_most:Int):Option (Int):=(oI FU).m1 p_v p_most
theorem aos:Va avr:=(oI FU).ok1
def akx(p_v:ah):Mo (Int):=
 .cl (aos p_v 1025) fun r0 _=>
 .ret (aY 1) (r0)
def as5(p_v:ah):Option (Int):=Mo.den (akx p_v)
theorem aot(p_v:ah):FV (as5 p_v) 180 [.dat (ah.lf1 p_v)] .i_:=cO Tryz.func180
abbrev Ve(m:ah→Int→Option (Int)):Prop:=∀p_v p_most,FV (m p_v p_most) 227 [.dat (ah.lf1 p_v),.i_ p_most] .i_
abbrev afn(m:ah→Int→Int→Option (Int×Int)):Prop:=∀p_v p_b0 p_b1,FH (m p_v p_b0 p_b1) 270 [.dat (ah.lf1 p_v),.clo 272 [.ptr 0 0,.ptr 1 0]] [.box 3 (.dat [(.int .i64 p_b0)]),.box 3 (.dat [(.int .i64 p_b1)])] (fun _=>.tup []) (fun r=>[.box 3 (.dat [(.int .i64 r.1)]),.box 3 (.dat [(.int .i64 r.2)])])
abbrev afo(m:ah→Int→Int→Option (Bool×Int×Int)):Prop:=∀p_p p_b0 p_b1,FH (m p_p p_b0 p_b1) 272 [.dat (ah.lf1 p_p),.ptr 0 0,.ptr 1 0] [.box 3 (.dat [(.int .i64 p_b0)]),.box 3 (.dat [(.int .i64 p_b1)])] (fun r=>.b_ r.1) (fun r=>[.box 3 (.dat [(.int .i64 r.2.1)]),.box 3 (.dat [(.int .i64 r.2.2)])])
structure II where
 m1:(p_v:ah)→(p_most:Int)→Option (Int)
 ok1:Ve m1
 m2:(p_v:ah)→(p_b0:Int)→(p_b1:Int)→Option (Int×Int)
 ok2:afn m2
 m3:(p_p:ah)→(p_b0:Int)→(p_b1:Int)→Option (Bool×Int×Int)
 ok3:afo m3
def Vf(R_:II)(p_v:ah)(p_most:Int):Mo (Int):=
 .iB (p_most==1) (.ret (aY 1) (1))<|
 .cH [2,1] (R_.ok2 p_v 0 p_most) fun r0 _=>
 .ret (aY 1) (IntKind.wrap .i64 (1+r0.1))
theorem aky(R_:II):Ve fun p_v p_most=>Mo.den (Vf R_ p_v p_most):=fun _ _=>cO Tryz.func227
def zN(R_:II)(p_v:ah):(Int×Int×Int)→Mo ((Int×Int×Int)⊕(Int×Int)⊕(Int×Int)):=fun(v0,v1,v2)=>
 .iB (decide ((v0:Int)<(p_v.bF.length:Int))) (.gx ah.aX p_v.bF v0 fun x0 _=>
 .say [.at_ 14 2,.tod 20] ok0<|
 .cH [0,1] (R_.ok3 x0 v1 v2) fun r0 _=>
 .iB (!r0.1) (.rt [] 3 (.inr (.inl (r0.2.1,r0.2.2))))<|
 .rt [1,13,14,15] 3 (.inl (IntKind.wrap .i64 (v0+1),r0.2.1,r0.2.2)))<|
 .rt [] 3 (.inr (.inr ((v1,v2))))
def afp(R_:II)(p_v:ah)(v0:Int)(v1:Int)(v2:Int):Option ((Int×Int)⊕(Int×Int)):=bQ (fun v_=>(zN R_ p_v v_).den) FU (v0,v1,v2)
def zO(R_:II)(p_v:ah):(Int×Int×Int)→Mo ((Int×Int×Int)⊕(Int×Int)⊕(Int×Int)):=fun(v0,v1,v2)=>
 .iB (decide ((v0:Int)<(p_v.bC.length:Int))) (.gx aN.aX p_v.bC v0 fun x0 _=>
 .say [.at_ 26 3,.tod 35] ok0<|
 .cH [0,1] (R_.ok3 x0.fValue v1 v2) fun r0 _=>
 .iB (!r0.1) (.rt [] 3 (.inr (.inl (r0.2.1,r0.2.2))))<|
 .rt [1,27,28,29] 3 (.inl (IntKind.wrap .i64 (v0+1),r0.2.1,r0.2.2)))<|
 .rt [] 3 (.inr (.inr ((v1,v2))))
def afq(R_:II)(p_v:ah)(v0:Int)(v1:Int)(v2:Int):Option ((Int×Int)⊕(Int×Int)):=bQ (fun v_=>(zO R_ p_v v_).den) FU (v0,v1,v2)
def KD(R_:II)(p_v:ah)(p_b0:Int)(p_b1:Int):Mo (Int×Int):=
 .iB (p_v.aK==6) (.nu p_v.bF ah.lf<|
 .l2m [.kill 2] Tryz.f270 2 [1,1,0,1,0,1,0] 0 (fun(v0,v1,v2)=>⟨[(1,.clo 272 [.ptr 0 0,.ptr 1 0]),(13,.lf (.rows 5 (p_v.bF.map ah.lf))),(14,.i_ (p_v.bF.length:Int)),(15,.i_ v0)],[.box 3 (.dat [(.int .i64 v1)]),.box 3 (.dat [(.int .i64 v2)]),.dead]⟩) .ret (fun o_=>⟨[],[.box 3 (.dat [(.int .i64 o_.1)]),.box 3 (.dat [(.int .i64 o_.2)]),.dead]⟩) (.exit 1) (fun o_=>⟨[],[.box 3 (.dat [(.int .i64 o_.1)]),.box 3 (.dat [(.int .i64 o_.2)]),.dead]⟩) (afp R_ p_v 0 p_b0 p_b1) (zN R_ p_v) (0,p_b0,p_b1) (fun o0=>
 .rt [] 2 (o0.1,o0.2)) fun o1=>
 .rt [] 2 (o1.1,o1.2))<|
 .iB (p_v.aK==5) (.nu p_v.bC aN.lf<|
 .l2m [.kill 2] Tryz.f270 2 [1,1,0,1,1,1,0,1,0] 0 (fun(v3,v4,v5)=>⟨[(1,.clo 272 [.ptr 0 0,.ptr 1 0]),(27,.lf (.rows 6 (p_v.bC.map aN.lf))),(28,.i_ (p_v.bC.length:Int)),(29,.i_ v3)],[.box 3 (.dat [(.int .i64 v4)]),.box 3 (.dat [(.int .i64 v5)]),.dead]⟩) .ret (fun o_=>⟨[],[.box 3 (.dat [(.int .i64 o_.1)]),.box 3 (.dat [(.int .i64 o_.2)]),.dead]⟩) (.exit 3) (fun o_=>⟨[],[.box 3 (.dat [(.int .i64 o_.1)]),.box 3 (.dat [(.int .i64 o_.2)]),.dead]⟩) (afq R_ p_v 0 p_b0 p_b1) (zO R_ p_v) (0,p_b0,p_b1) (fun o2=>
 .rt [] 2 (o2.1,o2.2)) fun o3=>
 .rt [] 2 (o3.1,o3.2))<|
 .ret ⟨[.kill 2],[],[],2⟩ (p_b0,p_b1)
theorem akz(R_:II):afn fun p_v p_b0 p_b1=>Mo.den (KD R_ p_v p_b0 p_b1):=fun _ _ _=>ig Tryz.func270
def Vg(R_:II)(p_p:ah)(p_b0:Int)(p_b1:Int):Mo (Bool×Int×Int):=
 .say [.order [(true,0),(true,1),(true,2),(true,3),(false,4),(true,5),(false,6)] (some 6) []] ok0<|
 .cl (R_.ok1 p_p (IntKind.wrap .i64 (p_b1-1))) fun r0 _=>
 .ret ⟨[.kill 2],[0],[],2⟩ (decide (((if r0 > p_b0 then r0 else p_b0):Int)<(IntKind.wrap .i64 (p_b1-1))),(if r0 > p_b0 then r0 else p_b0),p_b1)
theorem akA(R_:II):afo fun p_p p_b0 p_b1=>Mo.den (Vg R_ p_p p_b0 p_b1):=fun _ _ _=>ig Tryz.func272
def oJ:Nat→II
 |0=>{ m1:=fun p_v p_most=>none,ok1:=fun _ _ _ h=>(by cases h),m2:=fun p_v p_b0 p_b1=>none,ok2:=fun _ _ _ _ h=>(by cases h),m3:=fun p_p p_b0 p_b1=>none,ok3:=fun _ _ _ _ h=>(by cases h) }
 |n_+1=>{ m1:=fun p_v p_most=>Mo.den (Vf (oJ n_) p_v p_most),ok1:=aky (oJ n_),m2:=fun p_v p_b0 p_b1=>Mo.den (KD (oJ n_) p_v p_b0 p_b1),ok2:=akz (oJ n_),m3:=fun p_p p_b0 p_b1=>Mo.den (Vg (oJ n_) p_p p_b0 p_b1),ok3:=akA (oJ n_) }
def avs(p_v:ah)(p_most:Int):Option (Int):=(oJ FU).m1 p_v p_most
theorem aou:Ve avs:=(oJ FU).ok1
def akB(p_v:ah):Mo (Int):=
 .cl (aou p_v 17) fun r0 _=>
 .ret (aY 1) (r0)
def as6(p_v:ah):Option (Int):=Mo.den (akB p_v)
theorem aov(p_v:ah):FV (as6 p_v) 181 [.dat (ah.lf1 p_v)] .i_:=cO Tryz.func181
def pq(p_s:ByteArray):(Int)→Mo ((Int)⊕(Unit⊕Unit)):=fun(v0)=>
 .iB (decide ((v0:Int)<(p_s.size:Int))) (.sf Tryz.f274 0 [1,1,0,1,0,0,1,1,0,0,1,0] 0 10 6 [(0,.lf (.str p_s)),(3,.i_ v0),(18,.i_ (p_s.size:Int)),(19,.i_ v0)] [] 31 (kF p_s v0) fun r0=>
 .sk Tryz.f274 0 [1,1,0,1,0,0,1,1,0,0,1,0] 10 6 6 (fun r_=>⟨[(0,.lf (.str p_s)),(18,.i_ (p_s.size:Int)),(19,.i_ v0),(37,.b_ r_)],[]⟩) ⟨[(0,.lf (.str p_s)),(3,.i_ v0),(18,.i_ (p_s.size:Int)),(19,.i_ v0),(31,.b_ r0)],[]⟩ (kG p_s r0 v0) fun r1=>
 .iB (r1) (.rt [2] 0 (.inr (.inl ())))<|
 .rt [0,18,19] 0 (.inl (IntKind.wrap .i64 (v0+1))))<|
 .rt [] 0 (.inr (.inr (())))
def DK(p_s:ByteArray)(v0:Int):Option (Unit⊕Unit):=bQ (fun v_=>(pq p_s v_).den) FU (v0)
def YF(p_s:ByteArray):Mo (Bool):=
 .sf Tryz.f274 0 [1,0,0] 0 8 1 [(0,.lf (.str p_s))] [] 11 (kD p_s) fun r0=>
 .sb Tryz.f274 0 [1,0,0] 8 5 1 [(0,.lf (.str p_s))] [] 11 16 r0 (kE p_s r0) fun r1=>
 .iB (r1) (.ret (aY 1) (false))<|
 .l2m [] Tryz.f274 0 [1,1,0,1,0] 0 (fun(v0)=>⟨[(0,.lf (.str p_s)),(18,.i_ (p_s.size:Int)),(19,.i_ v0)],[]⟩) .ret (fun _=>⟨[(2,.b_ false)],[]⟩) (.exit 0) (fun _=>⟨[],[]⟩) (DK p_s 0) (pq p_s) (0) (fun o0=>
 .ret (aY 1) (false)) fun o1=>
 .ret (aY 1) (true)
def Q79(p_s:ByteArray):Option (Bool):=Mo.den (YF p_s)
theorem as7(p_s:ByteArray):FV (Q79 p_s) 274 [.lf (.str p_s)] .b_:=cO Tryz.func274
abbrev Vh(m:ah→Option (Bool)):Prop:=∀p_v,FV (m p_v) 182 [.dat (ah.lf1 p_v)] .b_
abbrev afr(m:(List aN)→Option (Bool)):Prop:=∀p_l,FV (m p_l) 229 [.lf (.rows 6 (p_l.map aN.lf))] .b_
structure qc where
 m1:(p_v:ah)→Option (Bool)
 ok1:Vh m1
 m2:(p_l:List aN)→Option (Bool)
 ok2:afr m2
def YG(R_:qc)(p_v:ah):Mo (Bool):=
 .oV 4003 (p_v.aK==3) [1,14] 1 (p_v.aK==9)
def YH(R_:qc)(p_v:ah)(r0:Bool):Mo (Bool):=
 .oV 4008 (r0) [1,19] 1 (p_v.aK==10)
def Pq(R_:qc)(p_v:ah)(r0:Bool):Mo (Unit):=
 .rt [1,3] 1 ()
def Pv(R_:qc)(p_v:ah)(r0:Bool):Mo (Bool):=
 .oV 6003 (p_v.aK==4) [1,3,27] 1 (p_v.aK==7)
def Px(R_:qc)(p_v:ah)(r0:Bool)(r1:Bool):Mo (Bool):=
 .oV 6008 (r1) [1,3,32] 1 (p_v.aK==8)
def Py(R_:qc)(p_v:ah)(r0:Bool)(r1:Bool):Mo (Unit):=
 .rt [1,3,4] 1 ()
def Pz(R_:qc)(p_v:ah)(r0:Bool)(r1:Bool):Mo (Bool):=
 .aV 8002 (!r0) [1,4,39] 1 (p_v.je != 0)
def PD(R_:qc)(p_v:ah)(r0:Bool)(r1:Bool):Mo (Bool):=
 .iG 8007 (r1) (.rt [1,48] 1 (true))<|
 .aV 8010 (!r0) [1,48] 1 (!decide ((p_v.fText:ByteArray)=(⟨#[]⟩:ByteArray)))
def PE(R_:qc)(p_v:ah):Mo (Bool):=
 .iG 12003 (p_v.aK != 6) (.nu p_v.bF ah.lf<|
 .rt [1,57] 1 (decide ((0:Int)<(p_v.bF.length:Int))))<|
 .rt [1,57] 1 (false)
def PG(R_:qc)(p_v:ah)(r0:Bool):Mo (Bool):=
 .iG 12009 (r0) (.rt [1,68] 1 (true))<|
 .iG 12013 (p_v.aK != 5) (.nu p_v.bC aN.lf<|
 .rt [1,68] 1 (decide ((0:Int)<(p_v.bC.length:Int))))<|
 .rt [1,68] 1 (false)
def PI(R_:qc)(p_v:ah):Mo (Bool):=
 .iB (p_v.aK==1) (.rt [1,70,71] 1 (p_v.aK==1))<|
 .iB (p_v.aK==2) (.rt [1,70,71] 1 (p_v.aK==2))<|
 .iB (p_v.aK==11) (.rt [1,70,71] 1 (p_v.aK==11))<|
 .rt [1,70,71] 1 (p_v.aK==3)
def PK(R_:qc)(p_v:ah):Mo (Bool):=
 .iG 30003 (p_v.je==0) (.ret ⟨[.kill 0],[2],[],1⟩ (true))<|
 .ret ⟨[.kill 0],[2],[],1⟩ (p_v.je==1)
def PL(R_:qc)(p_v:ah):Mo (Bool):=
 .iG 38004 (decide (((p_v.fText.size:Int):Int)≤4096)) (.cl (anr p_v.fText) fun r0 _=>
 .ret ⟨[.kill 0],[2],[],1⟩ (r0))<|
 .ret ⟨[.kill 0],[2],[],1⟩ (false)
def zQ(R_:qc)(p_v:ah):(Int)→Mo ((Int)⊕(Unit⊕Unit)):=fun(v0)=>
 .iB (decide ((v0:Int)<(p_v.bF.length:Int))) (.gx ah.aX p_v.bF v0 fun x0 _=>
 .cl (R_.ok1 x0) fun r0 _=>
 .iB (!r0) (.rt [2] 1 (.inr (.inl ())))<|
 .rt [117,118,119] 1 (.inl (IntKind.wrap .i64 (v0+1))))<|
 .rt [] 1 (.inr (.inr (())))
def afs(R_:qc)(p_v:ah)(v0:Int):Option (Unit⊕Unit):=bQ (fun v_=>(zQ R_ p_v v_).den) FU (v0)
def aft(R_:qc)(p_v:ah):Mo (Bool):=
 .sf Tryz.f182 0 [1,0] 0 8 1 [(1,.ptr 0 0)] [bG p_v] 14 (YG R_ p_v) fun r0=>
 .sb Tryz.f182 0 [1,0] 8 5 1 [(1,.ptr 0 0)] [bG p_v] 14 19 r0 (YH R_ p_v r0) fun r1=>
 .sk Tryz.f182 0 [1,0] 13 1 1 (fun r_=>⟨[(1,.ptr 0 0),(3,.b_ r1)],[bG p_v]⟩) ⟨[(1,.ptr 0 0),(19,.b_ r1)],[bG p_v]⟩ (Pq R_ p_v r1) fun r2=>
 .sf Tryz.f182 0 [1,1,0] 0 8 2 [(1,.ptr 0 0),(3,.b_ r1)] [bG p_v] 27 (Pv R_ p_v r1) fun r3=>
 .sb Tryz.f182 0 [1,1,0] 8 5 2 [(1,.ptr 0 0),(3,.b_ r1)] [bG p_v] 27 32 r3 (Px R_ p_v r1 r3) fun r4=>
 .sk Tryz.f182 0 [1,1,0] 13 1 2 (fun r_=>⟨[(1,.ptr 0 0),(3,.b_ r1),(4,.b_ r4)],[bG p_v]⟩) ⟨[(1,.ptr 0 0),(3,.b_ r1),(32,.b_ r4)],[bG p_v]⟩ (Py R_ p_v r1 r4) fun r5=>
 .sk Tryz.f182 0 [1,1,1,0,0] 0 7 3 (fun r_=>⟨[(1,.ptr 0 0),(4,.b_ r4),(39,.b_ r_)],[bG p_v]⟩) ⟨[(1,.ptr 0 0),(3,.b_ r1),(4,.b_ r4)],[bG p_v]⟩ (Pz R_ p_v r1 r4) fun r6=>
 .sk Tryz.f182 0 [1,1,1,0,0] 7 9 3 (fun r_=>⟨[(1,.ptr 0 0),(48,.b_ r_)],[bG p_v]⟩) ⟨[(1,.ptr 0 0),(4,.b_ r4),(39,.b_ r6)],[bG p_v]⟩ (PD R_ p_v r4 r6) fun r7=>
 .iB (r7) (.ret (aY 1) (false))<|
 .sf Tryz.f182 0 [1,1,1,1,0,0] 0 9 5 [(1,.ptr 0 0)] [bG p_v] 57 (PE R_ p_v) fun r8=>
 .sb Tryz.f182 0 [1,1,1,1,0,0] 9 11 5 [(1,.ptr 0 0)] [bG p_v] 57 68 r8 (PG R_ p_v r8) fun r9=>
 .iB (r9) (.ret (aY 1) (false))<|
 .jk Tryz.f182 0 [1,1,1,1,1,0,1,0,0,1] 1 (fun r_=>⟨[(1,.ptr 0 0),(70,.i_ p_v.aK),(71,.b_ r_)],[bG p_v]⟩) ⟨[(1,.ptr 0 0),(70,.i_ p_v.aK),(71,.lf (.bool (p_v.aK==1)))],[bG p_v]⟩ (PI R_ p_v) fun r10=>
 .iB (r10) (.ret (aY 1) (true))<|
 .iB (p_v.aK==9) (.jk Tryz.f182 0 [1,1,1,1,1,0,1,0,1,1,1,0,0] 35 (fun r_=>⟨[(2,.b_ r_)],[.dead]⟩) ⟨[(1,.ptr 0 0)],[bG p_v]⟩ (PK R_ p_v) fun r11=>
 .ret (aY 1) (r11))<|
 .iB (p_v.aK==10) (.ret (aY 1) (decide ((0:Int)≤p_v.je)))<|
 .iB (p_v.aK==4) (.jk Tryz.f182 0 [1,1,1,1,1,0,1,0,1,1,1,1,1,1,1,0,0] 43 (fun r_=>⟨[(2,.b_ r_)],[.dead]⟩) ⟨[(1,.ptr 0 0)],[bG p_v]⟩ (PL R_ p_v) fun r12=>
 .ret (aY 1) (r12))<|
 .iB (p_v.aK==7) (.ret (aY 1) (decide (((p_v.fText.size:Int):Int)≤4096)))<|
 .iB (p_v.aK==8) (.ret (aY 1) ((p_v.fText.size:Int)==12))<|
 .iB (p_v.aK==6) (.nu p_v.bF ah.lf<|
 .l2m [.kill 0] Tryz.f182 0 [1,1,1,1,1,0,1,0,1,1,1,1,1,1,1,1,1,1,1,1,1,0,0,1,0] 0 (fun(v0)=>⟨[(117,.lf (.rows 5 (p_v.bF.map ah.lf))),(118,.i_ (p_v.bF.length:Int)),(119,.i_ v0)],[.dead]⟩) .ret (fun _=>⟨[(2,.b_ false)],[.dead]⟩) (.exit 1) (fun _=>⟨[],[.dead]⟩) (afs R_ p_v 0) (zQ R_ p_v) (0) (fun o0=>
 .ret (aY 1) (false)) fun o1=>
 .ret (aY 1) (true))<|
 .iB (p_v.aK==5) (.cl (R_.ok2 p_v.bC) fun r13 _=>
 .ret (aY 1) (r13))<|
 .ret (aY 1) (false)
theorem aow(R_:qc):Vh fun p_v=>Mo.den (aft R_ p_v):=fun _=>cO Tryz.func182
def YI(R_:qc)(m4461:List (ByteArray×Bool))(p_l:List aN)(v0:Int)(x0:aN):Mo (Bool):=
 .cl (as7 x0.fName) fun r0 _=>
 .iG 12004 (!r0) (.rt [3,5,7,8,9,22] 2 (true))<|
 .say [.row [.bool (xZ m4461 x0.fName false)]] (okc (rfl:Tryz.prog=Tryz.prog) (ok1 (JU _ _ _:oq (m4461.map mvB) x0.fName (.bool false)=(.bool (xZ m4461 x0.fName false)))))<|
 .rt [3,5,7,8,9,22] 2 (xZ m4461 x0.fName false)
def YJ(R_:qc)(m4461:List (ByteArray×Bool))(p_l:List aN)(r0:Bool)(v0:Int)(x0:aN):Mo (Bool):=
 .iG 12010 (r0) (.rt [3,5,7,8,9,28] 2 (true))<|
 .cl (R_.ok1 x0.fValue) fun r1 _=>
 .rt [3,5,7,8,9,28] 2 (!r1)
def zU(R_:qc)(p_l:List aN):(Int×(List (ByteArray×Bool)))→Mo ((Int×(List (ByteArray×Bool)))⊕(Unit⊕Unit)):=fun(v0,m4461)=>
 .iB (decide ((v0:Int)<(p_l.length:Int))) (.gx aN.aX p_l v0 fun x0 _=>
 .sf Tryz.f229 0 [1,1,0,1,0,0,1,1,0,0,1,0,0] 0 10 5 [(3,.mp 0),(5,.ptr 1 0),(7,.lf (.rows 6 (p_l.map aN.lf))),(8,.i_ (p_l.length:Int)),(9,.i_ v0)] [.map Tryz.prog 9 4 (m4461.map mvB),.box 151 (.agg ((aN.lf1 x0).map AV.lf))] 22 (YI R_ m4461 p_l v0 x0) fun r0=>
 .sb Tryz.f229 0 [1,1,0,1,0,0,1,1,0,0,1,0,0] 10 6 5 [(3,.mp 0),(5,.ptr 1 0),(7,.lf (.rows 6 (p_l.map aN.lf))),(8,.i_ (p_l.length:Int)),(9,.i_ v0)] [.map Tryz.prog 9 4 (m4461.map mvB),.box 151 (.agg ((aN.lf1 x0).map AV.lf))] 22 28 r0 (YJ R_ m4461 p_l r0 v0 x0) fun r1=>
 .iB (r1) (.ret ⟨[.kill 0],[2],[],1⟩ (.inr (.inl ())))<|
 .say [] (ok1 (rfl:Tryz.prog=Tryz.prog))<|
 .grd (m4461.length<maxLen) fun h0=>
 .say [] (ok1 (by simpa using h0:(m4461.map mvB).length<maxLen))<|
 .rt [3,7,8,9] 1 (.inl (IntKind.wrap .i64 (v0+1),(x0.fName,true)::m4461)))<|
 .ret ⟨[.kill 0],[],[],1⟩ (.inr (.inr (())))
def afu(R_:qc)(p_l:List aN)(v0:Int)(m4461:List (ByteArray×Bool)):Option (Unit⊕Unit):=bQ (fun v_=>(zU R_ p_l v_).den) FU (v0,m4461)
def afv(R_:qc)(p_l:List aN):Mo (Bool):=
 .nu p_l aN.lf<|
 .l2m [] Tryz.f229 0 [1,1,0,1,0] 0 (fun(v0,m4461)=>⟨[(3,.mp 0),(7,.lf (.rows 6 (p_l.map aN.lf))),(8,.i_ (p_l.length:Int)),(9,.i_ v0)],[.map Tryz.prog 9 4 (m4461.map mvB)]⟩) .ret (fun _=>⟨[(2,.b_ false)],[.dead]⟩) (.exit 0) (fun _=>⟨[],[.dead]⟩) (afu R_ p_l 0 ([]:List (ByteArray×Bool))) (zU R_ p_l) (0,([]:List (ByteArray×Bool))) (fun o0=>
 .ret (aY 1) (false)) fun o1=>
 .ret (aY 1) (true)
theorem aox(R_:qc):afr fun p_l=>Mo.den (afv R_ p_l):=fun _=>cO Tryz.func229
def qR:Nat→qc
 |0=>{ m1:=fun p_v=>none,ok1:=fun _ _ h=>(by cases h),m2:=fun p_l=>none,ok2:=fun _ _ h=>(by cases h) }
 |n_+1=>{ m1:=fun p_v=>Mo.den (aft (qR n_) p_v),ok1:=aow (qR n_),m2:=fun p_l=>Mo.den (afv (qR n_) p_l),ok2:=aox (qR n_) }
def Q26(p_v:ah):Option (Bool):=(qR FU).m1 p_v
theorem as8:Vh Q26:=(qR FU).ok1
def akC(p_v:ah):Mo (Bool):=
 .cl (aot p_v) fun r0 _=>
 .iG 4003 (decide ((r0:Int)≤1024)) (.cl (aov p_v) fun r1 _=>
 .iG 4008 (decide ((r1:Int)≤16)) (.cl (as8 p_v) fun r2 _=>
 .ret (aY 1) (r2))<|
 .ret (aY 1) (false))<|
 .ret (aY 1) (false)
def aoy(p_v:ah):Option (Bool):=Mo.den (akC p_v)
theorem rZ(p_v:ah):FV (aoy p_v) 133 [.dat (ah.lf1 p_v)] .b_:=cO Tryz.func133
def YK(p_v:ah):Mo (Bool):=
 .aV 4003 (p_v.aK != 6) [1,2,10] 1 (p_v.aK != 1)
def YL(p_v:ah)(r0:Bool):Mo (Bool):=
 .aV 4008 (r0) [1,2,15] 1 (p_v.aK != 11)
def PN(p_v:ah)(r0:Bool):Mo (Bool):=
 .iG 4013 (r0) (.cl (rZ p_v) fun r1 _=>
 .ret ⟨[.kill 0],[2,19],[],1⟩ (r1))<|
 .ret ⟨[.kill 0],[2,19],[],1⟩ (false)
def akD(p_v:ah):Mo (Bool):=
 .sf Tryz.f89 0 [1,0] 0 8 1 [(1,.ptr 0 0),(2,.b_ false)] [bG p_v] 10 (YK p_v) fun r0=>
 .sb Tryz.f89 0 [1,0] 8 5 1 [(1,.ptr 0 0),(2,.b_ false)] [bG p_v] 10 15 r0 (YL p_v r0) fun r1=>
 .sk Tryz.f89 0 [1,0] 13 4 1 (fun r_=>⟨[(2,.b_ false),(19,.b_ r_)],[.dead]⟩) ⟨[(1,.ptr 0 0),(2,.b_ false),(15,.b_ r1)],[bG p_v]⟩ (PN p_v r1) fun r2=>
 .sk Tryz.f89 0 [1,0] 17 1 1 (fun r_=>⟨[(2,.b_ r2)],[.dead]⟩) ⟨[(2,.b_ false),(19,.b_ r2)],[.dead]⟩ (dG r2) fun r3=>
 .ret (aY 1) (r2)
def Q97(p_v:ah):Option (Bool):=Mo.den (akD p_v)
theorem as9(p_v:ah):FV (Q97 p_v) 89 [.dat (ah.lf1 p_v)] .b_:=cO Tryz.func89
def acG(p_x:Int)(p_y:Int):Mo (Int):=
 .cl (Ji p_x) fun r0 _=>
 .cl (Ji p_y) fun r1 _=>
 .iB (r0) (.iB (r1) (.ret (aY 1) (0))<|
 .ret (aY 1) ((-1)))<|
 .iB (r1) (.ret (aY 1) (1))<|
 .iB (decide ((p_x:Int)<p_y)) (.ret (aY 1) ((-1)))<|
 .iB (decide ((p_y:Int)<p_x)) (.ret (aY 1) (1))<|
 .ret (aY 1) (0)
def aoz(p_x:Int)(p_y:Int):Option (Int):=Mo.den (acG p_x p_y)
theorem Jj(p_x:Int)(p_y:Int):FV (aoz p_x p_y) 230 [.i_ p_x,.i_ p_y] .i_:=cO Tryz.func230
abbrev Vj(m:ah→ah→Option (Int)):Prop:=∀p_a p_b,FV (m p_a p_b) 183 [.dat (ah.lf1 p_a),.dat (ah.lf1 p_b)] .i_
structure Vk where
 m1:(p_a:ah)→(p_b:ah)→Option (Int)
 ok1:Vj m1
def KE(R_:Vk)(p_a:ah)(p_b:ah):Mo (Bool):=
 .iB (p_a.aK==3) (.rt [2,3,21,22] 2 (p_a.aK==3))<|
 .iB (p_a.aK==9) (.rt [2,3,21,22] 2 (p_a.aK==9))<|
 .rt [2,3,21,22] 2 (p_a.aK==10)
def KF(R_:Vk)(p_a:ah)(p_b:ah):Mo (Bool):=
 .iB (p_a.aK==4) (.rt [2,3,21,31] 2 (p_a.aK==4))<|
 .iB (p_a.aK==7) (.rt [2,3,21,31] 2 (p_a.aK==7))<|
 .rt [2,3,21,31] 2 (p_a.aK==8)
def uq(R_:Vk)(p_a:ah)(p_b:ah):(Int)→Mo ((Int)⊕(Int)⊕Unit):=fun(v0)=>
 .iB (decide ((v0:Int)<(if(p_b.bF.length:Int)<(p_a.bF.length:Int) then(p_b.bF.length:Int) else(p_a.bF.length:Int)))) (.ask (fQ p_a.bF v0) fun x0 h0=>
 .say [] (ok1 (bU ah.aX h0))<|
 .ask (fQ p_b.bF v0) fun x1 h1=>
 .say [] (ok1 (bU ah.aX h1))<|
 .ask (R_.m1 x0 x1) fun r0 h2=>
 .say [.gY (.q 0 (.q 1 (.q 2 (.q 3 (.q 4 (.q 5 (.q 6 (.q 7 (.q 8 (.q 9 (.l 10 (.q 11 .fin)))))))))))) (some 10) [] [.row (ah.lf1 x0),.row (ah.lf1 x1),.res (.i_ r0)] [2,3,6,48,49] 2 [(2,.ptr 0 0),(3,.ptr 1 0),(6,.i_ r0),(48,.i_ (if(p_b.bF.length:Int)<(p_a.bF.length:Int) then(p_b.bF.length:Int) else(p_a.bF.length:Int))),(49,.i_ v0)] [bG p_a,bG p_b]] (okc (R_.ok1 _ _ _ h2) (ok1 (rf_ ⟨[(2,.ptr 0 0),(3,.ptr 1 0),(6,.i_ r0),(48,.i_ (if(p_b.bF.length:Int)<(p_a.bF.length:Int) then(p_b.bF.length:Int) else(p_a.bF.length:Int))),(49,.i_ v0)],[bG p_a,bG p_b]⟩)))<|
 .iB (r0 != 0) (.ret ⟨[.kill 0,.kill 1],[4],[],2⟩ (.inr (.inl (r0))))<|
 .rt [2,3,48,49] 2 (.inl (IntKind.wrap .i64 (v0+1))))<|
 .rt [2,3] 2 (.inr (.inr (())))
def Vl(R_:Vk)(p_a:ah)(p_b:ah)(v0:Int):Option ((Int)⊕Unit):=bQ (fun v_=>(uq R_ p_a p_b v_).den) FU (v0)
def uw(R_:Vk)(p_a:ah)(p_b:ah):(Int)→Mo ((Int)⊕(Int)⊕Unit):=fun(v0)=>
 .iB (decide ((v0:Int)<(if(p_b.bC.length:Int)<(p_a.bC.length:Int) then(p_b.bC.length:Int) else(p_a.bC.length:Int)))) (.ask (fQ p_a.bC v0) fun x0 h0=>
 .say [] (ok1 (bU aN.aX h0))<|
 .ask (fQ p_b.bC v0) fun x1 h1=>
 .say [] (ok1 (bU aN.aX h1))<|
 .ask (ar1 x0.fName x1.fName) fun r0 h2=>
 .say [.gY (.q 0 (.q 1 (.q 2 (.q 3 (.q 4 (.q 5 (.q 6 (.q 7 (.q 8 (.q 9 (.q 10 (.q 11 (.l 12 (.q 13 .fin)))))))))))))) (some 12) [] [.row (aN.lf1 x0),.row (aN.lf1 x1),.res (.i_ r0)] [2,3,7,8,82,83] 2 [(2,.ptr 0 0),(3,.ptr 1 0),(7,.i_ v0),(8,.i_ r0),(82,.i_ (if(p_b.bC.length:Int)<(p_a.bC.length:Int) then(p_b.bC.length:Int) else(p_a.bC.length:Int))),(83,.i_ v0)] [bG p_a,bG p_b]] (okc (aeS _ _ _ h2) (ok1 (rf_ ⟨[(2,.ptr 0 0),(3,.ptr 1 0),(7,.i_ v0),(8,.i_ r0),(82,.i_ (if(p_b.bC.length:Int)<(p_a.bC.length:Int) then(p_b.bC.length:Int) else(p_a.bC.length:Int))),(83,.i_ v0)],[bG p_a,bG p_b]⟩)))<|
 .iB (r0 != 0) (.ret ⟨[.kill 0,.kill 1],[4],[],2⟩ (.inr (.inl (r0))))<|
 .ask (fQ p_a.bC v0) fun x2 h3=>
 .say [] (ok1 (bU aN.aX h3))<|
 .ask (fQ p_b.bC v0) fun x3 h4=>
 .say [] (ok1 (bU aN.aX h4))<|
 .ask (R_.m1 x2.fValue x3.fValue) fun r1 h5=>
 .say [.gY (.q 0 (.q 1 (.q 2 (.q 3 (.q 4 (.q 5 (.q 6 (.q 7 (.q 8 (.q 9 (.q 10 (.q 11 (.l 12 (.q 13 .fin)))))))))))))) (some 12) [] [.row (aN.lf1 x2),.row (aN.lf1 x3),.res (.i_ r1)] [2,3,9,82,83] 2 [(2,.ptr 0 0),(3,.ptr 1 0),(9,.i_ r1),(82,.i_ (if(p_b.bC.length:Int)<(p_a.bC.length:Int) then(p_b.bC.length:Int) else(p_a.bC.length:Int))),(83,.i_ v0)] [bG p_a,bG p_b]] (okc (R_.ok1 _ _ _ h5) (ok1 (rf_ ⟨[(2,.ptr 0 0),(3,.ptr 1 0),(9,.i_ r1),(82,.i_ (if(p_b.bC.length:Int)<(p_a.bC.length:Int) then(p_b.bC.length:Int) else(p_a.bC.length:Int))),(83,.i_ v0)],[bG p_a,bG p_b]⟩)))<|
 .iB (r1 != 0) (.ret ⟨[.kill 0,.kill 1],[4],[],2⟩ (.inr (.inl (r1))))<|
 .rt [2,3,82,83] 2 (.inl (IntKind.wrap .i64 (v0+1))))<|
 .rt [2,3] 2 (.inr (.inr (())))
def Vm(R_:Vk)(p_a:ah)(p_b:ah)(v0:Int):Option ((Int)⊕Unit):=bQ (fun v_=>(uw R_ p_a p_b v_).den) FU (v0)
def KG(R_:Vk)(p_a:ah)(p_b:ah):Mo (Int):=
 .iB (p_a.aK != p_b.aK) (.cl (Jj p_a.aK p_b.aK) fun r0 _=>
 .ret (aY 1) (r0))<|
 .jk Tryz.f183 0 [1,1,0,1,0,0,1] 1 (fun r_=>⟨[(2,.ptr 0 0),(3,.ptr 1 0),(21,.i_ p_a.aK),(22,.b_ r_)],[bG p_a,bG p_b]⟩) ⟨[(2,.ptr 0 0),(3,.ptr 1 0),(21,.i_ p_a.aK),(22,.lf (.bool (p_a.aK==3)))],[bG p_a,bG p_b]⟩ (KE R_ p_a p_b) fun r1=>
 .iB (r1) (.cl (Jj p_a.je p_b.je) fun r2 _=>
 .ret (aY 1) (r2))<|
 .jk Tryz.f183 0 [1,1,0,1,0,1,1,0,1] 1 (fun r_=>⟨[(2,.ptr 0 0),(3,.ptr 1 0),(21,.i_ p_a.aK),(31,.b_ r_)],[bG p_a,bG p_b]⟩) ⟨[(2,.ptr 0 0),(3,.ptr 1 0),(21,.i_ p_a.aK),(31,.lf (.bool (p_a.aK==4)))],[bG p_a,bG p_b]⟩ (KF R_ p_a p_b) fun r3=>
 .iB (r3) (.cl (aeS p_a.fText p_b.fText) fun r4 _=>
 .ret (aY 1) (r4))<|
 .iB (p_a.aK==6) (.nu p_a.bF ah.lf<|
 .nu p_b.bF ah.lf<|
 .l2m [] Tryz.f183 0 [1,1,0,1,0,1,1,1,1,1,0,0,1,0] 0 (fun(v0)=>⟨[(2,.ptr 0 0),(3,.ptr 1 0),(48,.i_ (if(p_b.bF.length:Int)<(p_a.bF.length:Int) then(p_b.bF.length:Int) else(p_a.bF.length:Int))),(49,.i_ v0)],[bG p_a,bG p_b]⟩) .ret (fun o_=>⟨[(4,.i_ o_)],[.dead,.dead]⟩) (.exit 1) (fun _=>⟨[(2,.ptr 0 0),(3,.ptr 1 0)],[bG p_a,bG p_b]⟩) (Vl R_ p_a p_b 0) (uq R_ p_a p_b) (0) (fun o0=>
 .ret (aY 1) (o0)) fun o1=>
 .nu p_a.bF ah.lf<|
 .nu p_b.bF ah.lf<|
 .cl (Jj (p_a.bF.length:Int) (p_b.bF.length:Int)) fun r5 _=>
 .ret (aY 1) (r5))<|
 .iB (p_a.aK==5) (.nu p_a.bC aN.lf<|
 .nu p_b.bC aN.lf<|
 .l2m [] Tryz.f183 0 [1,1,0,1,0,1,1,1,1,1,1,1,0,0,1,0] 0 (fun(v1)=>⟨[(2,.ptr 0 0),(3,.ptr 1 0),(82,.i_ (if(p_b.bC.length:Int)<(p_a.bC.length:Int) then(p_b.bC.length:Int) else(p_a.bC.length:Int))),(83,.i_ v1)],[bG p_a,bG p_b]⟩) .ret (fun o_=>⟨[(4,.i_ o_)],[.dead,.dead]⟩) (.exit 3) (fun _=>⟨[(2,.ptr 0 0),(3,.ptr 1 0)],[bG p_a,bG p_b]⟩) (Vm R_ p_a p_b 0) (uw R_ p_a p_b) (0) (fun o2=>
 .ret (aY 1) (o2)) fun o3=>
 .nu p_a.bC aN.lf<|
 .nu p_b.bC aN.lf<|
 .cl (Jj (p_a.bC.length:Int) (p_b.bC.length:Int)) fun r6 _=>
 .ret (aY 1) (r6))<|
 .ret (aY 1) (0)
theorem aoA(R_:Vk):Vj fun p_a p_b=>Mo.den (KG R_ p_a p_b):=fun _ _=>cO Tryz.func183
def jv:Nat→Vk
 |0=>{ m1:=fun p_a p_b=>none,ok1:=fun _ _ _ h=>(by cases h) }
 |n_+1=>{ m1:=fun p_a p_b=>Mo.den (KG (jv n_) p_a p_b),ok1:=aoA (jv n_) }
def Q37(p_a:ah)(p_b:ah):Option (Int):=(jv FU).m1 p_a p_b
theorem ata:Vj Q37:=(jv FU).ok1
def acH(p_a:ah)(p_b:ah):Mo (Bool):=
 .cl (ata p_a p_b) fun r0 _=>
 .ret (aY 1) (r0==0)
def aoB(p_a:ah)(p_b:ah):Option (Bool):=Mo.den (acH p_a p_b)
theorem aoC(p_a:ah)(p_b:ah):FV (aoB p_a p_b) 134 [.dat (ah.lf1 p_a),.dat (ah.lf1 p_b)] .b_:=cO Tryz.func134
def acI(p_n:Int):Mo (Int):=
 .say [] (okc (by decide:(0:Int)≤1) (ok1 (by decide:(0:Int)≤63)))<|
 .ret (aY 1) (bZ .xor .u64 (AU .u64 (IntKind.wrap .u64 p_n) 1) (IntKind.wrap .u64 (gu .i64 p_n 63)))
def akE(p_n:Int):Option (Int):=Mo.den (acI p_n)
theorem aoD(p_n:Int):FV (akE p_n) 276 [.i_ p_n] (fun r=>.lf (.int .u64 r)):=cO Tryz.func276
def qU :(Int×Int)→Mo ((Int×Int)⊕(Int)):=fun(v0,v1)=>
 .iB (decide ((128:Int)≤v1)) (.say [] (ok1 (by decide:(0:Int)≤7))<|
 .rt [3,4] 0 (.inl (IntKind.wrap .i64 (v0+1),gu .u64 v1 7)))<|
 .rt [3] 0 (.inr (v0))
def akF(v0:Int)(v1:Int):Option (Int):=bQ (fun v_=>(qU  v_).den) FU (v0,v1)
def akG(p_n:Int):Mo (Int):=
 .cl (aoD p_n) fun r0 _=>
 .l1m [] Tryz.f232 0 [1,1,0,1,0] 0 (.exit 0) (fun(v0,v1)=>⟨[(3,.i_ v0),(4,.lf (.int .u64 v1))],[]⟩) (fun r_=>⟨[(3,.i_ r_)],[]⟩) (akF 1 r0) (qU ) (1,r0) fun r1=>
 .ret (aY 1) (r1)
def Q65(p_n:Int):Option (Int):=Mo.den (akG p_n)
theorem KH(p_n:Int):FV (Q65 p_n) 232 [.i_ p_n] .i_:=cO Tryz.func232
abbrev Vo(m:ah→Option (Int)):Prop:=∀p_v,FV (m p_v) 184 [.dat (ah.lf1 p_v)] .i_
structure KI where
 m1:(p_v:ah)→Option (Int)
 ok1:Vo m1
def KJ(R_:KI)(p_v:ah):Mo (Bool):=
 .iB (p_v.aK==3) (.rt [1,3,9,10] 1 (p_v.aK==3))<|
 .rt [1,3,9,10] 1 (p_v.aK==10)
def KL(R_:KI)(p_v:ah):Mo (Bool):=
 .iB (p_v.aK==4) (.rt [1,3,9,22] 1 (p_v.aK==4))<|
 .rt [1,3,9,22] 1 (p_v.aK==7)
def uy(R_:KI)(p_v:ah):(Int×Int)→Mo ((Int×Int)⊕(Int)):=fun(v0,v1)=>
 .iB (decide ((v1:Int)<(p_v.bF.length:Int))) (.gx ah.aX p_v.bF v1 fun x0 _=>
 .cl (R_.ok1 x0) fun r0 _=>
 .rt [3,51,52,53] 1 (.inl (IntKind.wrap .i64 (v0+r0),IntKind.wrap .i64 (v1+1))))<|
 .rt [3] 1 (.inr (v0))
def afw(R_:KI)(p_v:ah)(v0:Int)(v1:Int):Option (Int):=bQ (fun v_=>(uy R_ p_v v_).den) FU (v0,v1)
def uz(R_:KI)(p_v:ah):(Int×Int)→Mo ((Int×Int)⊕(Int)):=fun(v0,v1)=>
 .iB (decide ((v1:Int)<(p_v.bC.length:Int))) (.gx aN.aX p_v.bC v1 fun x0 _=>
 .say [.order [(true,0),(true,1),(true,2),(true,3),(true,5),(true,6),(true,7),(true,9),(true,10),(false,4),(true,8),(false,11),(true,12),(true,13),(true,14)] none []] ok0<|
 .cl (KH (x0.fName.size:Int)) fun r0 _=>
 .cl (R_.ok1 x0.fValue) fun r1 _=>
 .rt [3,71,72,73] 1 (.inl (IntKind.wrap .i64 (v0+(IntKind.wrap .i64 ((IntKind.wrap .i64 (r0+(x0.fName.size:Int)))+r1))),IntKind.wrap .i64 (v1+1))))<|
 .rt [3] 1 (.inr (v0))
def afx(R_:KI)(p_v:ah)(v0:Int)(v1:Int):Option (Int):=bQ (fun v_=>(uz R_ p_v v_).den) FU (v0,v1)
def GK(R_:KI)(p_v:ah):Mo (Int):=
 .jk Tryz.f184 0 [1,1,0,1,0,0,1] 1 (fun r_=>⟨[(1,.ptr 0 0),(3,.i_ 1),(9,.i_ p_v.aK),(10,.b_ r_)],[bG p_v]⟩) ⟨[(1,.ptr 0 0),(3,.i_ 1),(9,.i_ p_v.aK),(10,.lf (.bool (p_v.aK==3)))],[bG p_v]⟩ (KJ R_ p_v) fun r0=>
 .iB (r0) (.cl (KH p_v.je) fun r1 _=>
 .ret ⟨[.kill 0],[3],[],1⟩ (IntKind.wrap .i64 (1+r1)))<|
 .iB (p_v.aK==9) (.ret ⟨[.kill 0],[3],[],1⟩ (IntKind.wrap .i64 (1+1)))<|
 .jk Tryz.f184 0 [1,1,0,1,0,1,1,1,1,0,1] 1 (fun r_=>⟨[(1,.ptr 0 0),(3,.i_ 1),(9,.i_ p_v.aK),(22,.b_ r_)],[bG p_v]⟩) ⟨[(1,.ptr 0 0),(3,.i_ 1),(9,.i_ p_v.aK),(22,.lf (.bool (p_v.aK==4)))],[bG p_v]⟩ (KL R_ p_v) fun r2=>
 .iB (r2) (.say [.order [(true,0),(true,1),(true,2),(true,3),(true,5),(true,6),(true,7),(false,4),(true,8),(true,9),(true,10)] none []] ok0<|
 .cl (KH (p_v.fText.size:Int)) fun r3 _=>
 .ret ⟨[.kill 0],[3],[],1⟩ (IntKind.wrap .i64 (1+(IntKind.wrap .i64 (r3+(p_v.fText.size:Int))))))<|
 .iB (p_v.aK==8) (.ret ⟨[.kill 0],[3],[],1⟩ (IntKind.wrap .i64 (1+(p_v.fText.size:Int))))<|
 .iB (p_v.aK==6) (.nu p_v.bF ah.lf<|
 .ask (Q65 (p_v.bF.length:Int)) fun r4 h0=>
 .say [.res (.i_ r4),.num p_v.bF.length] (okc (KH _ _ h0) (ok1 (ln_ p_v.bF ah.lf)))<|
 .l1m [.kill 0] Tryz.f184 0 [1,1,0,1,0,1,1,1,1,1,1,1,1,1,0,1,1,0] 0 (.exit 1) (fun(v0,v1)=>⟨[(3,.i_ v0),(51,.lf (.rows 5 (p_v.bF.map ah.lf))),(52,.i_ (p_v.bF.length:Int)),(53,.i_ v1)],[.dead]⟩) (fun r_=>⟨[(3,.i_ r_)],[.dead]⟩) (afw R_ p_v (IntKind.wrap .i64 (1+r4)) 0) (uy R_ p_v) ((IntKind.wrap .i64 (1+r4)),0) fun r5=>
 .rt [3] 1 (r5))<|
 .iB (p_v.aK==5) (.nu p_v.bC aN.lf<|
 .ask (Q65 (p_v.bC.length:Int)) fun r6 h1=>
 .say [.res (.i_ r6),.num p_v.bC.length] (okc (KH _ _ h1) (ok1 (ln_ p_v.bC aN.lf)))<|
 .l1m [.kill 0] Tryz.f184 0 [1,1,0,1,0,1,1,1,1,1,1,1,1,1,1,1,0,1,1,0] 0 (.exit 3) (fun(v2,v3)=>⟨[(3,.i_ v2),(71,.lf (.rows 6 (p_v.bC.map aN.lf))),(72,.i_ (p_v.bC.length:Int)),(73,.i_ v3)],[.dead]⟩) (fun r_=>⟨[(3,.i_ r_)],[.dead]⟩) (afx R_ p_v (IntKind.wrap .i64 (1+r6)) 0) (uz R_ p_v) ((IntKind.wrap .i64 (1+r6)),0) fun r7=>
 .rt [3] 1 (r7))<|
 .ret ⟨[.kill 0],[3],[],1⟩ (1)
def Vp(R_:KI)(p_v:ah):Option (Int):=Mo.den (GK R_ p_v)
def YM(R_:KI)(p_v:ah):Mo (Int):=
 .jp Tryz.f184 0 [1,1,0,1] 6 [1,3,9] 1 (.normal) (fun r_=>⟨[(3,.i_ r_)],[.dead]⟩) ⟨[(1,.ptr 0 0),(3,.i_ 1),(9,.i_ p_v.aK)],[bG p_v]⟩ (Vp R_ p_v) (jW (by kernel_rfl)) fun r0 _=>
 .ret (aY 1) (r0)
theorem aoE(R_:KI):Vo fun p_v=>Mo.den (YM R_ p_v):=fun _=>cO Tryz.func184
def ny:Nat→KI
 |0=>{ m1:=fun p_v=>none,ok1:=fun _ _ h=>(by cases h) }
 |n_+1=>{ m1:=fun p_v=>Mo.den (YM (ny n_) p_v),ok1:=aoE (ny n_) }
def Q34(p_v:ah):Option (Int):=(ny FU).m1 p_v
theorem atb:Vo Q34:=(ny FU).ok1
def acJ(p_v:ah):Mo (Int×Int):=
 .cl (rZ p_v) fun r0 _=>
 .iB (!r0) (.ret (aY 2) (0,8))<|
 .cl (atb p_v) fun r1 _=>
 .ret (aY 2) (r1,0)
def akH(p_v:ah):Option (Int×Int):=Mo.den (acJ p_v)
theorem aoF(p_v:ah):FV (akH p_v) 135 [.dat (ah.lf1 p_v)] (fun r=>.tup [.i_ r.1,.i_ r.2]):=cO Tryz.func135
end
end Go.Proofs.YtbdcaeahocbkbaaGreatDoor
