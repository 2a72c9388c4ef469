/- Printed by dec.py. -/
import Derived.Test.YtbdcaeahocbkbaaGreatDoorQAAp5
set_option linter.unusedSimpArgs false
set_option linter.unusedVariables false
namespace Go.Proofs.YtbdcaeahocbkbaaGreatDoor
open Go.RowKit
set_option maxRecDepth 20000
set_option maxHeartbeats 4000000
noncomputable section
def afH(b0:UInt8)(p_s:ByteArray)(v0:Int):Mo (Bool):=
 .aV 16002 (decide ((194:Int)≤(b0.toNat:Int))) [0,3,4,16] 0 (decide (((b0.toNat:Int):Int)≤223))
def afI(b0:UInt8)(p_s:ByteArray)(v0:Int):Mo (Bool):=
 .aV 20002 (decide ((224:Int)≤(b0.toNat:Int))) [0,3,4,23] 0 (decide (((b0.toNat:Int):Int)≤239))
def Y7(b0:UInt8)(p_s:ByteArray)(v0:Int):Mo (Bool):=
 .aV 24002 (decide ((240:Int)≤(b0.toNat:Int))) [0,3,4,30] 0 (decide (((b0.toNat:Int):Int)≤244))
def Md(b0:UInt8)(p_s:ByteArray)(v0:Int):Mo ((Int)⊕Unit):=
 .iB (decide (((b0.toNat:Int):Int)<128)) (.rt [0,3,4,5] 0 (.inl (0)))<|
 .jk Tryz.f202 0 [1,0,1,0,0,1,0,1,1,0,0,1,1,0] 21 (fun r_=>⟨[(0,.lf (.str p_s)),(3,.i_ v0),(4,.lf (.int .u8 (b0.toNat:Int))),(16,.b_ r_)],[]⟩) ⟨[(0,.lf (.str p_s)),(3,.i_ v0),(4,.lf (.int .u8 (b0.toNat:Int)))],[]⟩ (afH b0 p_s v0) fun r0=>
 .iB (r0) (.rt [0,3,4,5] 0 (.inl (1)))<|
 .jk Tryz.f202 0 [1,0,1,0,0,1,0,1,1,0,0,1,1,1,1,0] 25 (fun r_=>⟨[(0,.lf (.str p_s)),(3,.i_ v0),(4,.lf (.int .u8 (b0.toNat:Int))),(23,.b_ r_)],[]⟩) ⟨[(0,.lf (.str p_s)),(3,.i_ v0),(4,.lf (.int .u8 (b0.toNat:Int)))],[]⟩ (afI b0 p_s v0) fun r1=>
 .iB (r1) (.rt [0,3,4,5] 0 (.inl (2)))<|
 .jk Tryz.f202 0 [1,0,1,0,0,1,0,1,1,0,0,1,1,1,1,1,1,0] 29 (fun r_=>⟨[(0,.lf (.str p_s)),(3,.i_ v0),(4,.lf (.int .u8 (b0.toNat:Int))),(30,.b_ r_)],[]⟩) ⟨[(0,.lf (.str p_s)),(3,.i_ v0),(4,.lf (.int .u8 (b0.toNat:Int)))],[]⟩ (Y7 b0 p_s v0) fun r2=>
 .iB (r2) (.rt [0,3,4,5] 0 (.inl (3)))<|
 .rt [2] 0 (.inr (()))
def V6(b0:UInt8)(p_s:ByteArray)(v0:Int):Option ((Int)⊕Unit):=Mo.den (Md b0 p_s v0)
def D9(r_:(Int)⊕Unit):Exit:=match r_ with
 |.inl o_=>.normal
 |.inr (o_)=>.ret
def Ea(b0:UInt8)(p_s:ByteArray)(v0:Int)(r_:(Int)⊕Unit):St:=match r_ with
 |.inl o_=>⟨[(0,.lf (.str p_s)),(3,.i_ v0),(4,.lf (.int .u8 (b0.toNat:Int))),(5,.i_ o_)],[]⟩
 |.inr (o_)=>⟨[(2,.b_ false)],[]⟩
theorem Y8{b0:UInt8}{p_s:ByteArray}{v0:Int}{r_:(Int)⊕Unit}(h:V6 b0 p_s v0=some r_):X4 Tryz.f202 0 [1,0,1,0,0,1,0,1,1,0] (D9 r_) (Ea b0 p_s v0 r_) ⟨[(0,.lf (.str p_s)),(3,.i_ v0),(4,.lf (.int .u8 (b0.toNat:Int))),(5,.i_ 0)],[]⟩:=
 JO BD (Md b0 p_s v0) D9 (Ea b0 p_s v0) (by kernel_rfl) h
def Y9(b0:UInt8)(o0:Int)(p_s:ByteArray)(v0:Int):Mo (Bool):=
 .iG 32002 ((b0.toNat:Int)==224) (.ask (lS p_s (IntKind.wrap .i64 (v0+1))) fun b1 h0=>
 .say [.byt b1] (ok1 (iy h0))<|
 .rt [0,3,4,5,51] 0 (decide (((b1.toNat:Int):Int)<160)))<|
 .rt [0,3,4,5,51] 0 (false)
def adk(b0:UInt8)(o0:Int)(p_s:ByteArray)(v0:Int):Option (Bool):=Mo.den (Y9 b0 o0 p_s v0)
def Za(b0:UInt8)(o0:Int)(p_s:ByteArray)(r0:Bool)(v0:Int):Mo (Bool):=
 .iG 32009 (r0) (.rt [0,3,4,5,62] 0 (true))<|
 .iG 32012 ((b0.toNat:Int)==237) (.ask (lS p_s (IntKind.wrap .i64 (v0+1))) fun b1 h0=>
 .say [.byt b1] (ok1 (iy h0))<|
 .rt [0,3,4,5,62] 0 (decide ((159:Int)<(b1.toNat:Int))))<|
 .rt [0,3,4,5,62] 0 (false)
def adl(b0:UInt8)(o0:Int)(p_s:ByteArray)(r0:Bool)(v0:Int):Option (Bool):=Mo.den (Za b0 o0 p_s r0 v0)
def Zb(b0:UInt8)(o0:Int)(p_s:ByteArray)(r0:Bool)(v0:Int):Mo (Bool):=
 .iG 32020 (r0) (.rt [0,3,4,5,73] 0 (true))<|
 .iG 32023 ((b0.toNat:Int)==240) (.ask (lS p_s (IntKind.wrap .i64 (v0+1))) fun b1 h0=>
 .say [.byt b1] (ok1 (iy h0))<|
 .rt [0,3,4,5,73] 0 (decide (((b1.toNat:Int):Int)<144)))<|
 .rt [0,3,4,5,73] 0 (false)
def adn(b0:UInt8)(o0:Int)(p_s:ByteArray)(r0:Bool)(v0:Int):Option (Bool):=Mo.den (Zb b0 o0 p_s r0 v0)
def Zc(b0:UInt8)(o0:Int)(p_s:ByteArray)(r0:Bool)(v0:Int):Mo (Bool):=
 .iG 32031 (r0) (.rt [0,3,5,84] 0 (true))<|
 .iG 32034 ((b0.toNat:Int)==244) (.ask (lS p_s (IntKind.wrap .i64 (v0+1))) fun b1 h0=>
 .say [.byt b1] (ok1 (iy h0))<|
 .rt [0,3,5,84] 0 (decide ((143:Int)<(b1.toNat:Int))))<|
 .rt [0,3,5,84] 0 (false)
def ado(b0:UInt8)(o0:Int)(p_s:ByteArray)(r0:Bool)(v0:Int):Option (Bool):=Mo.den (Zc b0 o0 p_s r0 v0)
def uI(p_s:ByteArray):(Int)→Mo ((Int)⊕(Unit⊕Unit)):=fun(v0)=>
 .iB (decide ((v0:Int)<(p_s.size:Int))) (.ask (lS p_s v0) fun b0 h0=>
 .say [.byt b0] (ok1 (iy h0))<|
 .lD (V6 b0 p_s v0) (fun o0 h1=>
 .say [.pt_ 10 [0,3,4,5] 0 (D9 (.inl o0)) (Ea b0 p_s v0 (.inl o0))] (ok1 (Y8 h1))<|
 .cl (atJ p_s (IntKind.wrap .i64 (v0+1)) o0) fun r0 _=>
 .iB (!r0) (.rt [2] 0 (.inr (.inl ())))<|
 .sj Tryz.f202 0 [1,0,1,0,0,1,0,1,1,1,1,0,0] [0,1,2,3,4,5,6,7,8] 15 9 [0,3,4,5] 0 (fun r_=>⟨[(0,.lf (.str p_s)),(3,.i_ v0),(4,.lf (.int .u8 (b0.toNat:Int))),(5,.i_ o0),(51,.b_ r_)],[]⟩) ⟨[(0,.lf (.str p_s)),(3,.i_ v0),(4,.lf (.int .u8 (b0.toNat:Int))),(5,.i_ o0)],[]⟩ (adk b0 o0 p_s v0) (sW (by kernel_rfl)) fun r1 _=>
 .sj Tryz.f202 0 [1,0,1,0,0,1,0,1,1,1,1,0,0] [9,10,11,12,13,14,15,16,17,18,19] 15 11 [0,3,4,5,51] 0 (fun r_=>⟨[(0,.lf (.str p_s)),(3,.i_ v0),(4,.lf (.int .u8 (b0.toNat:Int))),(5,.i_ o0),(62,.b_ r_)],[]⟩) ⟨[(0,.lf (.str p_s)),(3,.i_ v0),(4,.lf (.int .u8 (b0.toNat:Int))),(5,.i_ o0),(51,.b_ r1)],[]⟩ (adl b0 o0 p_s r1 v0) (sW (by kernel_rfl)) fun r2 _=>
 .sj Tryz.f202 0 [1,0,1,0,0,1,0,1,1,1,1,0,0] [20,21,22,23,24,25,26,27,28,29,30] 15 11 [0,3,4,5,62] 0 (fun r_=>⟨[(0,.lf (.str p_s)),(3,.i_ v0),(4,.lf (.int .u8 (b0.toNat:Int))),(5,.i_ o0),(73,.b_ r_)],[]⟩) ⟨[(0,.lf (.str p_s)),(3,.i_ v0),(4,.lf (.int .u8 (b0.toNat:Int))),(5,.i_ o0),(62,.b_ r2)],[]⟩ (adn b0 o0 p_s r2 v0) (sW (by kernel_rfl)) fun r3 _=>
 .sj Tryz.f202 0 [1,0,1,0,0,1,0,1,1,1,1,0,0] [31,32,33,34,35,36,37,38,39,40,41] 15 11 [0,3,4,5,73] 0 (fun r_=>⟨[(0,.lf (.str p_s)),(3,.i_ v0),(5,.i_ o0),(84,.b_ r_)],[]⟩) ⟨[(0,.lf (.str p_s)),(3,.i_ v0),(4,.lf (.int .u8 (b0.toNat:Int))),(5,.i_ o0),(73,.b_ r3)],[]⟩ (ado b0 o0 p_s r3 v0) (sW (by kernel_rfl)) fun r4 _=>
 .iB (r4) (.rt [2] 0 (.inr (.inl ())))<|
 .rt [0,3] 0 (.inl (IntKind.wrap .i64 ((IntKind.wrap .i64 (v0+o0))+1)))) fun o1 h1=>
 .say [.pt_ 10 [0,3,4,5] 0 (D9 (.inr (o1))) (Ea b0 p_s v0 (.inr (o1)))] (ok1 (Y8 h1))<|
 .rt [2] 0 (.inr (.inl ())))<|
 .rt [] 0 (.inr (.inr (())))
def ali(p_s:ByteArray)(v0:Int):Option (Unit⊕Unit):=bQ (fun v_=>(uI p_s v_).den) FU (v0)
def avy(p_s:ByteArray):Mo (Bool):=
 .l2m [] Tryz.f202 0 [1,0,1,0] 0 (fun(v0)=>⟨[(0,.lf (.str p_s)),(3,.i_ v0)],[]⟩) .ret (fun _=>⟨[(2,.b_ false)],[]⟩) (.exit 0) (fun _=>⟨[],[]⟩) (ali p_s 0) (uI p_s) (0) (fun o0=>
 .ret (aY 1) (false)) fun o1=>
 .ret (aY 1) (true)
def Q1(p_s:ByteArray):Option (Bool):=Mo.den (avy p_s)
theorem avz(p_s:ByteArray):FV (Q1 p_s) 202 [.lf (.str p_s)] .b_:=cO Tryz.func202
def ahw(p_s:ByteArray):Mo (Bool):=
 .oV 4003 (decide (((p_s.size:Int):Int)<1)) [0,11] 0 (decide ((128:Int)<(p_s.size:Int)))
def ahx(p_s:ByteArray)(v0:Int):Mo (Bool):=
 .ask (lS p_s v0) fun b0 h0=>
 .say [.byt b0] (ok1 (iy h0))<|
 .iG 14004 (decide (((b0.toNat:Int):Int)<32)) (.rt [0,3,27] 0 (true))<|
 .ask (lS p_s v0) fun b1 h1=>
 .say [.byt b1] (ok1 (iy h1))<|
 .rt [0,3,27] 0 (decide ((126:Int)<(b1.toNat:Int)))
def adp(p_s:ByteArray):(Int)→Mo ((Int)⊕(Unit⊕Unit)):=fun(v0)=>
 .iB (decide ((v0:Int)<(p_s.size:Int))) (.jk Tryz.f254 0 [1,1,0,1,0,0,1,0,0,0] 19 (fun r_=>⟨[(0,.lf (.str p_s)),(3,.i_ v0),(27,.b_ r_)],[]⟩) ⟨[(0,.lf (.str p_s)),(3,.i_ v0)],[]⟩ (ahx p_s v0) fun r0=>
 .iB (r0) (.rt [2] 0 (.inr (.inl ())))<|
 .rt [0,3] 0 (.inl (IntKind.wrap .i64 (v0+1))))<|
 .rt [] 0 (.inr (.inr (())))
def atK(p_s:ByteArray):Mo (Bool):=
 .jk Tryz.f254 0 [1,0,0] 9 (fun r_=>⟨[(0,.lf (.str p_s)),(11,.b_ r_)],[]⟩) ⟨[(0,.lf (.str p_s))],[]⟩ (ahw p_s) fun r0=>
 .iB (r0) (.ret (aY 1) (false))<|
 .l2 Tryz.f254 0 [1,1,0,1,0] 0 (fun(v0)=>⟨[(0,.lf (.str p_s)),(3,.i_ v0)],[]⟩) .ret (fun _=>⟨[(2,.b_ false)],[]⟩) (.exit 0) (fun _=>⟨[],[]⟩) (adp p_s) (0) (fun o0=>
 .ret (aY 1) (false)) fun o1=>
 .ret (aY 1) (true)
def awr(p_s:ByteArray):Option (Bool):=Mo.den (atK p_s)
theorem apw(p_s:ByteArray):FV (awr p_s) 254 [.lf (.str p_s)] .b_:=cO Tryz.func254
abbrev V7(m:ah→Bool→Option (Bool)):Prop:=∀p_v p_names,FV (m p_v p_names) 160 [.dat (ah.lf1 p_v),.b_ p_names] .b_
abbrev afJ(m:ah→Bool→Option (Bool)):Prop:=∀p_v p_names,FV (m p_v p_names) 203 [.dat (ah.lf1 p_v),.b_ p_names] .b_
structure og where
 m1:(p_v:ah)→(p_names:Bool)→Option (Bool)
 ok1:V7 m1
 m2:(p_v:ah)→(p_names:Bool)→Option (Bool)
 ok2:afJ m2
def afK(R_:og)(p_names:Bool)(p_v:ah):Mo (Bool):=
 .iG 4003 (p_v.aK != 6) (.nu p_v.bF ah.lf<|
 .rt [1,2,16] 1 (decide ((0:Int)<(p_v.bF.length:Int))))<|
 .rt [1,2,16] 1 (false)
def afL(R_:og)(p_names:Bool)(p_v:ah)(r0:Bool):Mo (Bool):=
 .iG 4009 (r0) (.rt [1,2,27] 1 (true))<|
 .iG 4013 (p_v.aK != 5) (.nu p_v.bC aN.lf<|
 .rt [1,2,27] 1 (decide ((0:Int)<(p_v.bC.length:Int))))<|
 .rt [1,2,27] 1 (false)
def Zd(R_:og)(p_names:Bool)(p_v:ah):Mo (Bool):=
 .oV 8003 (p_v.aK==4) [1,2,35] 1 (p_v.aK==7)
def Ze(R_:og)(p_names:Bool)(p_v:ah)(r0:Bool):Mo (Bool):=
 .oV 8008 (r0) [1,2,40] 1 (p_v.aK==8)
def Zf(R_:og)(p_names:Bool)(p_v:ah)(r0:Bool):Mo (Unit):=
 .rt [1,2,5] 1 ()
def Zg(R_:og)(p_names:Bool)(p_v:ah)(r0:Bool):Mo (Bool):=
 .oV 10003 (p_v.aK==3) [1,2,5,48] 1 (p_v.aK==9)
def Zh(R_:og)(p_names:Bool)(p_v:ah)(r0:Bool)(r1:Bool):Mo (Bool):=
 .oV 10008 (r1) [1,2,5,53] 1 (p_v.aK==10)
def Zi(R_:og)(p_names:Bool)(p_v:ah)(r0:Bool)(r1:Bool):Mo (Unit):=
 .rt [1,2,5,6] 1 ()
def Zj(R_:og)(p_names:Bool)(p_v:ah)(r0:Bool)(r1:Bool):Mo (Bool):=
 .aV 12002 (!r0) [1,2,6,60] 1 (!decide ((p_v.fText:ByteArray)=(⟨#[]⟩:ByteArray)))
def Zk(R_:og)(p_names:Bool)(p_v:ah)(r0:Bool)(r1:Bool):Mo (Bool):=
 .iG 12007 (r1) (.rt [1,2,69] 1 (true))<|
 .aV 12010 (!r0) [1,2,69] 1 (p_v.je != 0)
def Zl(R_:og)(p_names:Bool)(p_v:ah)(r0:Bool):Mo (Bool):=
 .oV 12016 (r0) [1,2,74] 1 (decide ((p_v.aK:Int)<1))
def Zm(R_:og)(p_names:Bool)(p_v:ah)(r0:Bool):Mo (Bool):=
 .oV 12021 (r0) [1,2,79] 1 (decide ((11:Int)<p_v.aK))
def Zn(R_:og)(p_v:ah):Mo (Bool):=
 .iG 20003 (p_v.je==0) (.ret ⟨[.kill 0],[4],[],1⟩ (true))<|
 .ret ⟨[.kill 0],[4],[],1⟩ (p_v.je==1)
def Zo(R_:og)(p_v:ah):Mo (Bool):=
 .iG 28004 (decide (((p_v.fText.size:Int):Int)≤4096)) (.cl (avz p_v.fText) fun r0 _=>
 .ret ⟨[.kill 0],[4],[],1⟩ (r0))<|
 .ret ⟨[.kill 0],[4],[],1⟩ (false)
def Eb(R_:og)(p_names:Bool)(p_v:ah):(Int)→Mo ((Int)⊕(Unit⊕Unit)):=fun(v0)=>
 .nu p_v.bF ah.lf<|
 .iB (decide ((v0:Int)<(p_v.bF.length:Int))) (.gx ah.aX p_v.bF v0 fun x0 _=>
 .cl (R_.ok1 x0 p_names) fun r0 _=>
 .iB (!r0) (.ret ⟨[.kill 0],[4],[],1⟩ (.inr (.inl ())))<|
 .rt [1,2,7] 1 (.inl (IntKind.wrap .i64 (v0+1))))<|
 .rt [1,2] 1 (.inr (.inr (())))
def alj(R_:og)(p_names:Bool)(p_v:ah)(v0:Int):Option (Unit⊕Unit):=bQ (fun v_=>(Eb R_ p_names p_v v_).den) FU (v0)
def apx(R_:og)(p_v:ah)(p_names:Bool):Mo (Bool):=
 .sf Tryz.f160 0 [1,0,0] 0 9 1 [(1,.b_ p_names),(2,.ptr 0 0)] [bG p_v] 16 (afK R_ p_names p_v) fun r0=>
 .sb Tryz.f160 0 [1,0,0] 9 11 1 [(1,.b_ p_names),(2,.ptr 0 0)] [bG p_v] 16 27 r0 (afL R_ p_names p_v r0) fun r1=>
 .iB (r1) (.ret (aY 1) (false))<|
 .sf Tryz.f160 0 [1,1,0] 0 8 3 [(1,.b_ p_names),(2,.ptr 0 0)] [bG p_v] 35 (Zd R_ p_names p_v) fun r2=>
 .sb Tryz.f160 0 [1,1,0] 8 5 3 [(1,.b_ p_names),(2,.ptr 0 0)] [bG p_v] 35 40 r2 (Ze R_ p_names p_v r2) fun r3=>
 .sk Tryz.f160 0 [1,1,0] 13 1 3 (fun r_=>⟨[(1,.b_ p_names),(2,.ptr 0 0),(5,.b_ r3)],[bG p_v]⟩) ⟨[(1,.b_ p_names),(2,.ptr 0 0),(40,.b_ r3)],[bG p_v]⟩ (Zf R_ p_names p_v r3) fun r4=>
 .sf Tryz.f160 0 [1,1,1,0] 0 8 4 [(1,.b_ p_names),(2,.ptr 0 0),(5,.b_ r3)] [bG p_v] 48 (Zg R_ p_names p_v r3) fun r5=>
 .sb Tryz.f160 0 [1,1,1,0] 8 5 4 [(1,.b_ p_names),(2,.ptr 0 0),(5,.b_ r3)] [bG p_v] 48 53 r5 (Zh R_ p_names p_v r3 r5) fun r6=>
 .sk Tryz.f160 0 [1,1,1,0] 13 1 4 (fun r_=>⟨[(1,.b_ p_names),(2,.ptr 0 0),(5,.b_ r3),(6,.b_ r6)],[bG p_v]⟩) ⟨[(1,.b_ p_names),(2,.ptr 0 0),(5,.b_ r3),(53,.b_ r6)],[bG p_v]⟩ (Zi R_ p_names p_v r3 r6) fun r7=>
 .sk Tryz.f160 0 [1,1,1,1,0,0] 0 7 5 (fun r_=>⟨[(1,.b_ p_names),(2,.ptr 0 0),(6,.b_ r6),(60,.b_ r_)],[bG p_v]⟩) ⟨[(1,.b_ p_names),(2,.ptr 0 0),(5,.b_ r3),(6,.b_ r6)],[bG p_v]⟩ (Zj R_ p_names p_v r3 r6) fun r8=>
 .sk Tryz.f160 0 [1,1,1,1,0,0] 7 9 5 (fun r_=>⟨[(1,.b_ p_names),(2,.ptr 0 0),(69,.b_ r_)],[bG p_v]⟩) ⟨[(1,.b_ p_names),(2,.ptr 0 0),(6,.b_ r6),(60,.b_ r8)],[bG p_v]⟩ (Zk R_ p_names p_v r6 r8) fun r9=>
 .sb Tryz.f160 0 [1,1,1,1,0,0] 16 5 5 [(1,.b_ p_names),(2,.ptr 0 0)] [bG p_v] 69 74 r9 (Zl R_ p_names p_v r9) fun r10=>
 .sb Tryz.f160 0 [1,1,1,1,0,0] 21 5 5 [(1,.b_ p_names),(2,.ptr 0 0)] [bG p_v] 74 79 r10 (Zm R_ p_names p_v r10) fun r11=>
 .iB (r11) (.ret (aY 1) (false))<|
 .iB (p_v.aK==9) (.jk Tryz.f160 0 [1,1,1,1,1,0,1,0,1,0,0] 25 (fun r_=>⟨[(4,.b_ r_)],[.dead]⟩) ⟨[(2,.ptr 0 0)],[bG p_v]⟩ (Zn R_ p_v) fun r12=>
 .ret (aY 1) (r12))<|
 .iB (p_v.aK==10) (.ret (aY 1) (decide ((0:Int)≤p_v.je)))<|
 .iB (p_v.aK==4) (.jk Tryz.f160 0 [1,1,1,1,1,0,1,0,1,1,1,1,1,0,0] 33 (fun r_=>⟨[(4,.b_ r_)],[.dead]⟩) ⟨[(2,.ptr 0 0)],[bG p_v]⟩ (Zo R_ p_v) fun r13=>
 .ret (aY 1) (r13))<|
 .iB (p_v.aK==7) (.ret (aY 1) (decide (((p_v.fText.size:Int):Int)≤4096)))<|
 .iB (p_v.aK==8) (.ret (aY 1) ((p_v.fText.size:Int)==12))<|
 .l2m [] Tryz.f160 0 [1,1,1,1,1,1,0,1,0] 0 (fun(v0)=>⟨[(1,.b_ p_names),(2,.ptr 0 0),(7,.i_ v0)],[bG p_v]⟩) .ret (fun _=>⟨[(4,.b_ false)],[.dead]⟩) (.exit 1) (fun _=>⟨[(1,.b_ p_names),(2,.ptr 0 0)],[bG p_v]⟩) (alj R_ p_names p_v 0) (Eb R_ p_names p_v) (0) (fun o0=>
 .ret (aY 1) (false)) fun o1=>
 .cl (R_.ok2 p_v p_names) fun r14 _=>
 .ret (aY 1) (r14)
theorem atL(R_:og):V7 fun p_v p_names=>Mo.den (apx R_ p_v p_names):=fun _ _=>cO Tryz.func160
def Zp(R_:og)(p_names:Bool)(p_v:ah)(v0:Int)(x0:aN):Mo (Bool):=
 .iG 12001 (p_names) (.cl (Cc x0.fName) fun r0 _=>
 .rt [1,2,5,6,26] 2 (!r0))<|
 .rt [1,2,5,6,26] 2 (false)
def Zq(R_:og)(p_names:Bool)(p_v:ah)(r0:Bool)(v0:Int)(x0:aN):Mo (Bool):=
 .iG 12007 (r0) (.rt [1,2,5,6,36] 2 (true))<|
 .iG 12010 (!p_names) (.cl (apw x0.fName) fun r1 _=>
 .rt [1,2,5,6,36] 2 (!r1))<|
 .rt [1,2,5,6,36] 2 (false)
def QI(R_:og)(p_names:Bool)(p_v:ah)(r0:Bool)(v0:Int)(x0:aN):Mo (Bool):=
 .iG 12017 (r0) (.rt [1,2,5,6,43] 2 (true))<|
 .cl (R_.ok1 x0.fValue p_names) fun r1 _=>
 .rt [1,2,5,6,43] 2 (!r1)
def Af(R_:og)(p_names:Bool)(p_v:ah)(v0:Int)(x0:aN):(Int)→Mo ((Int)⊕(Unit⊕Unit)):=fun(v1)=>
 .iB (decide ((v1:Int)<v0)) (.say [.order [(true,0),(true,1),(true,2),(true,3),(true,4),(true,5),(true,6),(true,7),(true,8)] none []] ok0<|
 .gx aN.aX p_v.bC v1 fun x1 _=>
 .iB (decide ((x1.fName:ByteArray)=(x0.fName:ByteArray))) (.ret ⟨[.kill 0,.kill 1],[4],[],2⟩ (.inr (.inl ())))<|
 .rt [1,2,5,6,7] 2 (.inl (IntKind.wrap .i64 (v1+1))))<|
 .ret ⟨[.kill 1],[1,2,5],[],2⟩ (.inr (.inr (())))
def afM(R_:og)(p_names:Bool)(p_v:ah)(v0:Int)(x0:aN)(v1:Int):Option (Unit⊕Unit):=bQ (fun v_=>(Af R_ p_names p_v v0 x0 v_).den) FU (v1)
def Ag(R_:og)(p_names:Bool)(p_v:ah):(Int)→Mo ((Int)⊕(Unit⊕Unit)):=fun(v0)=>
 .nu p_v.bC aN.lf<|
 .iB (decide ((v0:Int)<(p_v.bC.length:Int))) (.gx aN.aX p_v.bC v0 fun x0 _=>
 .sf Tryz.f203 0 [1,0,1,0,0,1,0,0,1,0,0] 0 7 5 [(1,.b_ p_names),(2,.ptr 0 0),(5,.i_ v0),(6,.ptr 1 0)] [bG p_v,.box 151 (.agg ((aN.lf1 x0).map AV.lf))] 26 (Zp R_ p_names p_v v0 x0) fun r0=>
 .sb Tryz.f203 0 [1,0,1,0,0,1,0,0,1,0,0] 7 10 5 [(1,.b_ p_names),(2,.ptr 0 0),(5,.i_ v0),(6,.ptr 1 0)] [bG p_v,.box 151 (.agg ((aN.lf1 x0).map AV.lf))] 26 36 r0 (Zq R_ p_names p_v r0 v0 x0) fun r1=>
 .sb Tryz.f203 0 [1,0,1,0,0,1,0,0,1,0,0] 17 7 5 [(1,.b_ p_names),(2,.ptr 0 0),(5,.i_ v0),(6,.ptr 1 0)] [bG p_v,.box 151 (.agg ((aN.lf1 x0).map AV.lf))] 36 43 r1 (QI R_ p_names p_v r1 v0 x0) fun r2=>
 .iB (r2) (.ret ⟨[.kill 0],[4],[],1⟩ (.inr (.inl ())))<|
 .l2m [] Tryz.f203 0 [1,0,1,0,0,1,0,0,1,1,1,0] 0 (fun(v1)=>⟨[(1,.b_ p_names),(2,.ptr 0 0),(5,.i_ v0),(6,.ptr 1 0),(7,.i_ v1)],[bG p_v,.box 151 (.agg ((aN.lf1 x0).map AV.lf))]⟩) .ret (fun _=>⟨[(4,.b_ false)],[.dead,.dead]⟩) (.exit 2) (fun _=>⟨[(1,.b_ p_names),(2,.ptr 0 0),(5,.i_ v0)],[bG p_v,.dead]⟩) (afM R_ p_names p_v v0 x0 0) (Af R_ p_names p_v v0 x0) (0) (fun o0=>
 .rt [4] 1 (.inr (.inl ()))) fun o1=>
 .rt [1,2,5] 1 (.inl (IntKind.wrap .i64 (v0+1))))<|
 .ret ⟨[.kill 0],[],[],1⟩ (.inr (.inr (())))
def afN(R_:og)(p_names:Bool)(p_v:ah)(v0:Int):Option (Unit⊕Unit):=bQ (fun v_=>(Ag R_ p_names p_v v_).den) FU (v0)
def afO(R_:og)(p_v:ah)(p_names:Bool):Mo (Bool):=
 .l2m [] Tryz.f203 0 [1,0,1,0] 0 (fun(v0)=>⟨[(1,.b_ p_names),(2,.ptr 0 0),(5,.i_ v0)],[bG p_v]⟩) .ret (fun _=>⟨[(4,.b_ false)],[.dead]⟩) (.exit 0) (fun _=>⟨[],[.dead]⟩) (afN R_ p_names p_v 0) (Ag R_ p_names p_v) (0) (fun o0=>
 .ret (aY 1) (false)) fun o1=>
 .ret (aY 1) (true)
theorem apy(R_:og):afJ fun p_v p_names=>Mo.den (afO R_ p_v p_names):=fun _ _=>cO Tryz.func203
def qY:Nat→og
 |0=>{ m1:=fun p_v p_names=>none,ok1:=fun _ _ _ h=>(by cases h),m2:=fun p_v p_names=>none,ok2:=fun _ _ _ h=>(by cases h) }
 |n_+1=>{ m1:=fun p_v p_names=>Mo.den (apx (qY n_) p_v p_names),ok1:=atL (qY n_),m2:=fun p_v p_names=>Mo.den (afO (qY n_) p_v p_names),ok2:=apy (qY n_) }
def Q5(p_v:ah)(p_names:Bool):Option (Bool):=(qY FU).m1 p_v p_names
theorem avA:V7 Q5:=(qY FU).ok1
def alk(p_v:ah):Mo (Bool):=
 .cl (apt p_v) fun r0 _=>
 .iG 4003 (decide ((r0:Int)≤16)) (.cl (apv p_v) fun r1 _=>
 .iG 4008 (decide ((r1:Int)≤1024)) (.cl (avA p_v true) fun r2 _=>
 .ret (aY 1) (r2))<|
 .ret (aY 1) (false))<|
 .ret (aY 1) (false)
def atM(p_v:ah):Option (Bool):=Mo.den (alk p_v)
theorem su(p_v:ah):FV (atM p_v) 116 [.dat (ah.lf1 p_v)] .b_:=cO Tryz.func116
abbrev V8(m:ah→Option (ByteArray)):Prop:=∀p_v,FV (m p_v) 255 [.dat (ah.lf1 p_v)] (fun r=>.lf (.str r))
structure IJ where
 m1:(p_v:ah)→Option (ByteArray)
 ok1:V8 m1
def Zr(R_:IJ)(p_v:ah):Mo (Bool):=
 .iB (p_v.aK==3) (.rt [1,3,12,13] 2 (p_v.aK==3))<|
 .rt [1,3,12,13] 2 (p_v.aK==10)
def Zt(R_:IJ)(p_v:ah):Mo (Bool):=
 .iB (p_v.aK==4) (.rt [1,3,12,30] 2 (p_v.aK==4))<|
 .rt [1,3,12,30] 2 (p_v.aK==7)
def Ah(R_:IJ)(p_v:ah):(ByteArray×Int)→Mo ((ByteArray×Int)⊕(ByteArray)):=fun(v0,v1)=>
 .nu p_v.bF ah.lf<|
 .iB (decide ((v1:Int)<(p_v.bF.length:Int))) (.gx ah.aX p_v.bF v1 fun x0 _=>
 .cl (R_.ok1 x0) fun r0 _=>
 .grd (v0.size+r0.size≤9223372036854775807) fun h0=>
 .say [] (ok1 h0)<|
 .rt [1,3,4] 2 (.inl (v0++r0,IntKind.wrap .i64 (v1+1))))<|
 .ret ⟨[.kill 0],[3],[],2⟩ (.inr (v0))
def afP(R_:IJ)(p_v:ah)(v0:ByteArray)(v1:Int):Option (ByteArray):=bQ (fun v_=>(Ah R_ p_v v_).den) FU (v0,v1)
theorem awt:NY (opsOf (Code.sub (bodyC Tryz.f255) [1,1,0,1,0,1,1,1,1,1,1,1,1,1,1,1,0,1,1,0,0,1,0,0])) [(true,0),(true,1),(true,2),(true,3),(true,4),(true,5),(true,6),(true,7),(true,10),(true,11),(true,12),(true,13),(true,14),(true,15),(true,17),(true,18),(true,19),(true,20),(true,21),(true,22),(false,8),(true,9),(true,16),(false,23),(true,24),(true,25)] none=true:=by kernel_rfl
def Ai(R_:IJ)(p_v:ah):(ByteArray×Int)→Mo ((ByteArray×Int)⊕(ByteArray)):=fun(v0,v1)=>
 .nu p_v.bC aN.lf<|
 .iB (decide ((v1:Int)<(p_v.bC.length:Int))) (.say [.sQ [(true,0),(true,1),(true,2),(true,3),(true,4),(true,5),(true,6),(true,7),(true,10),(true,11),(true,12),(true,13),(true,14),(true,15),(true,17),(true,18),(true,19),(true,20),(true,21),(true,22),(false,8),(true,9),(true,16),(false,23),(true,24),(true,25)] none []] (ok1 awt)<|
 .gx aN.aX p_v.bC v1 fun x0 _=>
 .gx aN.aX p_v.bC v1 fun x1 _=>
 .gx aN.aX p_v.bC v1 fun x2 _=>
 .cl (GZ (x0.fName.size:Int)) fun r0 _=>
 .grd (v0.size+r0.size≤9223372036854775807) fun h0=>
 .say [] (ok1 h0)<|
 .grd ((v0++r0).size+x1.fName.size≤9223372036854775807) fun h1=>
 .say [] (ok1 h1)<|
 .cl (R_.ok1 x2.fValue) fun r1 _=>
 .grd (((v0++r0)++x1.fName).size+r1.size≤9223372036854775807) fun h2=>
 .say [] (ok1 h2)<|
 .rt [1,3,5] 2 (.inl (((v0++r0)++x1.fName)++r1,IntKind.wrap .i64 (v1+1))))<|
 .ret ⟨[.kill 0],[3],[],2⟩ (.inr (v0))
def afQ(R_:IJ)(p_v:ah)(v0:ByteArray)(v1:Int):Option (ByteArray):=bQ (fun v_=>(Ai R_ p_v v_).den) FU (v0,v1)
def G5(R_:IJ)(p_v:ah):Mo (ByteArray):=
 .jk Tryz.f255 0 [1,1,0,1,0,0,1] 1 (fun r_=>⟨[(1,.ptr 0 0),(3,.lf (.str (strOfNums [IntKind.wrap .u8 p_v.aK]))),(12,.i_ p_v.aK),(13,.b_ r_)],[bG p_v,.dead]⟩) ⟨[(1,.ptr 0 0),(3,.lf (.str (strOfNums [IntKind.wrap .u8 p_v.aK]))),(12,.i_ p_v.aK),(13,.lf (.bool (p_v.aK==3)))],[bG p_v,.dead]⟩ (Zr R_ p_v) fun r0=>
 .iB (r0) (.cl (GZ p_v.je) fun r1 _=>
 .grd ((strOfNums [IntKind.wrap .u8 p_v.aK]).size+r1.size≤9223372036854775807) fun h0=>
 .say [] (ok1 h0)<|
 .ret ⟨[.kill 0],[3],[],2⟩ ((strOfNums [IntKind.wrap .u8 p_v.aK])++r1))<|
 .iB (p_v.aK==9) (.say [.nums [IntKind.wrap .u8 p_v.je]] (ok1 (by simp[lfI,lfK]:[((lfK .u8) (IntKind.wrap .u8 p_v.je))]=[IntKind.wrap .u8 p_v.je].map fun n=>[Lf.int .u8 n]))<|
 .grd ((strOfNums [IntKind.wrap .u8 p_v.aK]).size+(strOfNums [IntKind.wrap .u8 p_v.je]).size≤9223372036854775807) fun h1=>
 .say [] (ok1 h1)<|
 .ret ⟨[.kill 0],[3],[],2⟩ ((strOfNums [IntKind.wrap .u8 p_v.aK])++(strOfNums [IntKind.wrap .u8 p_v.je])))<|
 .jk Tryz.f255 0 [1,1,0,1,0,1,1,1,1,0,1] 1 (fun r_=>⟨[(1,.ptr 0 0),(3,.lf (.str (strOfNums [IntKind.wrap .u8 p_v.aK]))),(12,.i_ p_v.aK),(30,.b_ r_)],[bG p_v,.dead]⟩) ⟨[(1,.ptr 0 0),(3,.lf (.str (strOfNums [IntKind.wrap .u8 p_v.aK]))),(12,.i_ p_v.aK),(30,.lf (.bool (p_v.aK==4)))],[bG p_v,.dead]⟩ (Zt R_ p_v) fun r2=>
 .iB (r2) (.say [.order [(true,0),(true,1),(true,2),(true,3),(true,6),(true,7),(false,4),(true,5),(true,8),(true,9)] none []] ok0<|
 .cl (GZ (p_v.fText.size:Int)) fun r3 _=>
 .grd ((strOfNums [IntKind.wrap .u8 p_v.aK]).size+r3.size≤9223372036854775807) fun h2=>
 .say [] (ok1 h2)<|
 .grd (((strOfNums [IntKind.wrap .u8 p_v.aK])++r3).size+p_v.fText.size≤9223372036854775807) fun h3=>
 .say [] (ok1 h3)<|
 .ret ⟨[.kill 0],[3],[],2⟩ (((strOfNums [IntKind.wrap .u8 p_v.aK])++r3)++p_v.fText))<|
 .iB (p_v.aK==8) (.grd ((strOfNums [IntKind.wrap .u8 p_v.aK]).size+p_v.fText.size≤9223372036854775807) fun h4=>
 .say [] (ok1 h4)<|
 .ret ⟨[.kill 0],[3],[],2⟩ ((strOfNums [IntKind.wrap .u8 p_v.aK])++p_v.fText))<|
 .iB (p_v.aK==6) (.nu p_v.bF ah.lf<|
 .cl (GZ (p_v.bF.length:Int)) fun r4 _=>
 .grd ((strOfNums [IntKind.wrap .u8 p_v.aK]).size+r4.size≤9223372036854775807) fun h5=>
 .say [] (ok1 h5)<|
 .l1m [] Tryz.f255 0 [1,1,0,1,0,1,1,1,1,1,1,1,1,1,0,1,1,0] 0 (.exit 1) (fun(v0,v1)=>⟨[(1,.ptr 0 0),(3,.lf (.str v0)),(4,.i_ v1)],[bG p_v,.dead]⟩) (fun r_=>⟨[(3,.lf (.str r_))],[.dead,.dead]⟩) (afP R_ p_v ((strOfNums [IntKind.wrap .u8 p_v.aK])++r4) 0) (Ah R_ p_v) (((strOfNums [IntKind.wrap .u8 p_v.aK])++r4),0) fun r5=>
 .rt [3] 2 (r5))<|
 .iB (p_v.aK==5) (.nu p_v.bC aN.lf<|
 .cl (GZ (p_v.bC.length:Int)) fun r6 _=>
 .grd ((strOfNums [IntKind.wrap .u8 p_v.aK]).size+r6.size≤9223372036854775807) fun h6=>
 .say [] (ok1 h6)<|
 .l1m [] Tryz.f255 0 [1,1,0,1,0,1,1,1,1,1,1,1,1,1,1,1,0,1,1,0] 0 (.exit 3) (fun(v2,v3)=>⟨[(1,.ptr 0 0),(3,.lf (.str v2)),(5,.i_ v3)],[bG p_v,.dead]⟩) (fun r_=>⟨[(3,.lf (.str r_))],[.dead,.dead]⟩) (afQ R_ p_v ((strOfNums [IntKind.wrap .u8 p_v.aK])++r6) 0) (Ai R_ p_v) (((strOfNums [IntKind.wrap .u8 p_v.aK])++r6),0) fun r7=>
 .rt [3] 2 (r7))<|
 .ret ⟨[.kill 0],[3],[],2⟩ (strOfNums [IntKind.wrap .u8 p_v.aK])
def Jm(R_:IJ)(p_v:ah):Option (ByteArray):=Mo.den (G5 R_ p_v)
def Aj  (r_:ByteArray):St:=⟨[(3,.lf (.str r_))],[.dead,.dead]⟩
theorem ahy{R_:IJ}{p_v:ah}{r_:ByteArray}(h:Jm R_ p_v=some r_):X4 Tryz.f255 0 [1,1,0,1] (.normal) (Aj r_) ⟨[(1,.ptr 0 0),(3,.lf (.str (strOfNums [IntKind.wrap .u8 p_v.aK]))),(12,.i_ p_v.aK)],[bG p_v,.dead]⟩:=
 JO BD (G5 R_ p_v) (fun _=>.normal) Aj (by kernel_rfl) h
def afR(R_:IJ)(p_v:ah):Mo (ByteArray):=
 .say [.nums [IntKind.wrap .u8 p_v.aK]] (ok1 (by simp[lfI,lfK]:[((lfK .u8) (IntKind.wrap .u8 p_v.aK))]=[IntKind.wrap .u8 p_v.aK].map fun n=>[Lf.int .u8 n]))<|
 .ask (Jm R_ p_v) fun r0 h0=>
 .say [.part [.kill 1] 6 [1,3,12] 2 (.normal) (Aj r0).T (Aj r0).H] (ok1 (ahy h0))<|
 .ret (aY 1) (r0)
theorem apz(R_:IJ):V8 fun p_v=>Mo.den (afR R_ p_v):=fun _=>cO Tryz.func255
def vW:Nat→IJ
 |0=>{ m1:=fun p_v=>none,ok1:=fun _ _ h=>(by cases h) }
 |n_+1=>{ m1:=fun p_v=>Mo.den (afR (vW n_) p_v),ok1:=apz (vW n_) }
def Q17(p_v:ah):Option (ByteArray):=(vW FU).m1 p_v
theorem atN:V8 Q17:=(vW FU).ok1
def alm(p_v:ah):Mo (ByteArray×Int):=
 .cl (su p_v) fun r0 _=>
 .iB (!r0) (.ret (aY 2) (⟨#[]⟩,8))<|
 .cl (atN p_v) fun r1 _=>
 .ret (aY 2) (r1,0)
def avC(p_v:ah):Option (ByteArray×Int):=Mo.den (alm p_v)
theorem afS(p_v:ah):FV (avC p_v) 204 [.dat (ah.lf1 p_v)] (fun r=>.tup [.lf (.str r.1),.i_ r.2]):=cO Tryz.func204
abbrev V9(m:ah→aO→Option (aO)):Prop:=∀p_v p_b0,FH (m p_v p_b0) 172 [.ptr 0 0,.dat (ah.lf1 p_v)] [dS p_b0] (fun _=>.tup []) (fun r=>[dS r])
abbrev Wh(m:(List ah)→aO→Option (aO)):Prop:=∀p_l p_b0,FH (m p_l p_b0) 216 [.ptr 0 0,.lf (.rows 5 (p_l.map ah.lf))] [dS p_b0] (fun _=>.tup []) (fun r=>[dS r])
structure N9 where
 m1:(p_v:ah)→(p_b0:aO)→Option (aO)
 ok1:V9 m1
 m2:(p_l:List ah)→(p_b0:aO)→Option (aO)
 ok2:Wh m2
def Ec(R_:N9)(p_v:ah):(Int×aO)→Mo ((Int×aO)⊕(aO)):=fun(v0,s8861)=>
 .nu p_v.bC aN.lf<|
 .iB (decide ((v0:Int)<(p_v.bC.length:Int))) (.gx aN.aX p_v.bC v0 fun x0 _=>
 .cH [0] (tJ x0.fName s8861) fun r0 _=>
 .gx aN.aX p_v.bC v0 fun x1 _=>
 .cH [0] (R_.ok1 x1.fValue r0) fun r1 _=>
 .rt [0,3,4] 2 (.inl (IntKind.wrap .i64 (v0+1),r1)))<|
 .ret ⟨[.kill 1],[],[],2⟩ (.inr (s8861))
def adq(R_:N9)(p_v:ah)(v0:Int)(s8861:aO):Option (aO):=bQ (fun v_=>(Ec R_ p_v v_).den) FU (v0,s8861)
def aln(R_:N9)(p_b0:aO)(r0:ByteArray×Int):Mo (aO):=
 .iG 32005 (p_b0.IB) (.rt [0,5] 2 (aO.mk p_b0.fS true p_b0.xk))<|
 .rt [0,5] 2 (aO.mk p_b0.fS (r0.2 != 0) p_b0.xk)
def alo(R_:N9)(p_v:ah)(p_b0:aO):Mo (aO):=
 .iB (p_b0.xk) (.cH [0] (gK p_v.aK p_b0) fun r0 _=>
 .cH [0] (gK p_v.je r0) fun r1 _=>
 .cH [0] (tJ p_v.fText r1) fun r2 _=>
 .ask (R_.m2 p_v.bF r2) fun r3 h0=>
 .say [.jA [0] (.tup []) [dS r3],.num p_v.bC.length] (okc (R_.ok2 _ _ _ h0) (ok1 (ln_ p_v.bC aN.lf)))<|
 .cH [0] (gK (p_v.bC.length:Int) r3) fun r4 _=>
 .l1m [] Tryz.f172 1 [1,0,1,0,1,1,1,1,1,0,1,0] 0 (.exit 0) (fun(v0,s8861)=>⟨[(0,.ptr 0 0),(3,.ptr 1 0),(4,.i_ v0)],[dS s8861,bG p_v]⟩) (fun r_=>⟨[],[dS r_,.dead]⟩) (adq R_ p_v 0 r4) (Ec R_ p_v) (0,r4) fun r5=>
 .rt [] 1 (r5))<|
 .cl (vU p_v) fun r6 _=>
 .iB (r6) (.grd (p_b0.fS.size+(⟨#[0]⟩:ByteArray).size≤9223372036854775807) fun h1=>
 .say [] (ok1 h1)<|
 .ret ⟨[.kill 1],[],[],1⟩ (aO.mk (p_b0.fS++⟨#[0]⟩) p_b0.IB p_b0.xk))<|
 .cl (afS p_v) fun r7 _=>
 .jy [.kill 1] Tryz.f172 1 [1,1,1,1,0] 37 (.normal) (fun r_=>⟨[(0,.ptr 0 0),(5,.lf (.str r7.1))],[dS r_,.dead]⟩) ⟨[(0,.ptr 0 0),(5,.lf (.str r7.1)),(6,.i_ r7.2)],[dS p_b0,.dead]⟩ (aln R_ p_b0 r7) fun r8=>
 .grd ((⟨#[1]⟩:ByteArray).size+r7.1.size≤9223372036854775807) fun h2=>
 .say [] (ok1 h2)<|
 .grd (r8.fS.size+((⟨#[1]⟩:ByteArray)++r7.1).size≤9223372036854775807) fun h3=>
 .say [] (ok1 h3)<|
 .rt [] 1 (aO.mk (r8.fS++((⟨#[1]⟩:ByteArray)++r7.1)) r8.IB r8.xk)
theorem apA(R_:N9):V9 fun p_v p_b0=>Mo.den (alo R_ p_v p_b0):=fun _ _=>ig Tryz.func172
def Ed(R_:N9)(p_l:List ah):(Int×aO)→Mo ((Int×aO)⊕(aO)):=fun(v0,s10286)=>
 .nu p_l ah.lf<|
 .iB (decide ((v0:Int)<(p_l.length:Int))) (.gx ah.aX p_l v0 fun x0 _=>
 .cH [0] (R_.ok1 x0 s10286) fun r0 _=>
 .rt [0,1,4] 1 (.inl (IntKind.wrap .i64 (v0+1),r0)))<|
 .rt [] 1 (.inr (s10286))
def adr(R_:N9)(p_l:List ah)(v0:Int)(s10286:aO):Option (aO):=bQ (fun v_=>(Ed R_ p_l v_).den) FU (v0,s10286)
def alp(R_:N9)(p_l:List ah)(p_b0:aO):Mo (aO):=
 .nu p_l ah.lf<|
 .cH [0] (gK (p_l.length:Int) p_b0) fun r0 _=>
 .l1m [] Tryz.f216 1 [1,1,0] 0 (.exit 0) (fun(v0,s10286)=>⟨[(0,.ptr 0 0),(1,.lf (.rows 5 (p_l.map ah.lf))),(4,.i_ v0)],[dS s10286]⟩) (fun r_=>⟨[],[dS r_]⟩) (adr R_ p_l 0 r0) (Ed R_ p_l) (0,r0) fun r1=>
 .rt [] 1 (r1)
theorem apB(R_:N9):Wh fun p_l p_b0=>Mo.den (alp R_ p_l p_b0):=fun _ _=>ig Tryz.func216
def nC:Nat→N9
 |0=>{ m1:=fun p_v p_b0=>none,ok1:=fun _ _ _ h=>(by cases h),m2:=fun p_l p_b0=>none,ok2:=fun _ _ _ h=>(by cases h) }
 |n_+1=>{ m1:=fun p_v p_b0=>Mo.den (alo (nC n_) p_v p_b0),ok1:=apA (nC n_),m2:=fun p_l p_b0=>Mo.den (alp (nC n_) p_l p_b0),ok2:=apB (nC n_) }
def Q41(p_v:ah)(p_b0:aO):Option (aO):=(nC FU).m1 p_v p_b0
theorem Cj:V9 Q41:=(nC FU).ok1
def Q58(p_l:List ah)(p_b0:aO):Option (aO):=(nC FU).m2 p_l p_b0
theorem alq:Wh Q58:=(nC FU).ok2
def Ee(p_s:dP):(Int×aO)→Mo ((Int×aO)⊕(aO)):=fun(v0,s10369)=>
 .nu p_s.bK dO.lf<|
 .iB (decide ((v0:Int)<(p_s.bK.length:Int))) (.gx dO.aX p_s.bK v0 fun x0 _=>
 .cH [0] (gK x0.fX s10369) fun r0 _=>
 .gx dO.aX p_s.bK v0 fun x1 _=>
 .cH [0] (gK x1.fY r0) fun r1 _=>
 .rt [0,3,4] 2 (.inl (IntKind.wrap .i64 (v0+1),r1)))<|
 .rt [0,3] 2 (.inr (s10369))
def ads(p_s:dP)(v0:Int)(s10369:aO):Option (aO):=bQ (fun v_=>(Ee p_s v_).den) FU (v0,s10369)
def aqZ(p_s:dP)(p_b0:aO):Mo (aO):=
 .ask (Q14 p_s.aK p_b0) fun r0 h0=>
 .say [.jA [0] (.tup []) [dS r0],.num p_s.bK.length] (okc (gK _ _ _ h0) (ok1 (ln_ p_s.bK dO.lf)))<|
 .cH [0] (gK (p_s.bK.length:Int) r0) fun r1 _=>
 .l1m [] Tryz.f250 1 [1,1,1,0,1,0] 0 (.exit 0) (fun(v0,s10369)=>⟨[(0,.ptr 0 0),(3,.ptr 1 0),(4,.i_ v0)],[dS s10369,wR p_s]⟩) (fun r_=>⟨[(0,.ptr 0 0),(3,.ptr 1 0)],[dS r_,wR p_s]⟩) (ads p_s 0 r1) (Ee p_s) (0,r1) fun r2=>
 .cH [0] (gK p_s.fR r2) fun r3 _=>
 .ret ⟨[.kill 1],[],[],1⟩ (r3)
def Q83(p_s:dP)(p_b0:aO):Option (aO):=Mo.den (aqZ p_s p_b0)
theorem atO(p_s:dP)(p_b0:aO):FH (Q83 p_s p_b0) 250 [.ptr 0 0,.dat (dP.lf1 p_s)] [dS p_b0] (fun _=>.tup []) (fun r=>[dS r]):=ig Tryz.func250
abbrev Wi(m:aT→aO→Option (aO)):Prop:=∀p_e p_b0,FH (m p_e p_b0) 251 [.ptr 0 0,.dat (aT.lf1 p_e)] [dS p_b0] (fun _=>.tup []) (fun r=>[dS r])
structure alr where
 m1:(p_e:aT)→(p_b0:aO)→Option (aO)
 ok1:Wi m1
def Ef(R_:alr)(p_e:aT):(Int×aO)→Mo ((Int×aO)⊕(aO)):=fun(v0,s10431)=>
 .nu p_e.bJ aT.lf<|
 .iB (decide ((v0:Int)<(p_e.bJ.length:Int))) (.gx aT.aX p_e.bJ v0 fun x0 _=>
 .cH [0] (R_.ok1 x0 s10431) fun r0 _=>
 .rt [0,3,4] 2 (.inl (IntKind.wrap .i64 (v0+1),r0)))<|
 .ret ⟨[.kill 1],[],[],2⟩ (.inr (s10431))
def adt(R_:alr)(p_e:aT)(v0:Int)(s10431:aO):Option (aO):=bQ (fun v_=>(Ef R_ p_e v_).den) FU (v0,s10431)
def als(R_:alr)(p_e:aT)(p_b0:aO):Mo (aO):=
 .cH [0] (gK p_e.fOp p_b0) fun r0 _=>
 .cH [0] (L9 p_e.cZ r0) fun r1 _=>
 .cH [0] (tJ p_e.fName r1) fun r2 _=>
 .cH [0] (L9 p_e.eH r2) fun r3 _=>
 .cH [0] (Cj p_e.fArg r3) fun r4 _=>
 .ask (Q14 p_e.fN r4) fun r5 h0=>
 .say [.jA [0] (.tup []) [dS r5],.num p_e.bJ.length] (okc (gK _ _ _ h0) (ok1 (ln_ p_e.bJ aT.lf)))<|
 .cH [0] (gK (p_e.bJ.length:Int) r5) fun r6 _=>
 .l1m [] Tryz.f251 1 [1,1,1,1,1,1,1,1,1,0] 0 (.exit 0) (fun(v0,s10431)=>⟨[(0,.ptr 0 0),(3,.ptr 1 0),(4,.i_ v0)],[dS s10431,dJ p_e]⟩) (fun r_=>⟨[],[dS r_,.dead]⟩) (adt R_ p_e 0 r6) (Ef R_ p_e) (0,r6) fun r7=>
 .rt [] 1 (r7)
theorem apC(R_:alr):Wi fun p_e p_b0=>Mo.den (als R_ p_e p_b0):=fun _ _=>ig Tryz.func251
def yH:Nat→alr
 |0=>{ m1:=fun p_e p_b0=>none,ok1:=fun _ _ _ h=>(by cases h) }
 |n_+1=>{ m1:=fun p_e p_b0=>Mo.den (als (yH n_) p_e p_b0),ok1:=apC (yH n_) }
def Q67(p_e:aT)(p_b0:aO):Option (aO):=(yH FU).m1 p_e p_b0
theorem atP:Wi Q67:=(yH FU).ok1
abbrev Wj(m:aP→aO→Option (aO)):Prop:=∀p_p p_b0,FH (m p_p p_b0) 199 [.ptr 0 0,.dat (aP.lf1 p_p)] [dS p_b0] (fun _=>.tup []) (fun r=>[dS r])
structure alu where
 m1:(p_p:aP)→(p_b0:aO)→Option (aO)
 ok1:Wj m1
def Eh(R_:alu)(p_p:aP):(Int×aO)→Mo ((Int×aO)⊕(aO)):=fun(v0,s10464)=>
 .nu p_p.bJ aP.lf<|
 .iB (decide ((v0:Int)<(p_p.bJ.length:Int))) (.gx aP.aX p_p.bJ v0 fun x0 _=>
 .cH [0] (R_.ok1 x0 s10464) fun r0 _=>
 .rt [0,3,4] 2 (.inl (IntKind.wrap .i64 (v0+1),r0)))<|
 .ret ⟨[.kill 1],[],[],2⟩ (.inr (s10464))
def adu(R_:alu)(p_p:aP)(v0:Int)(s10464:aO):Option (aO):=bQ (fun v_=>(Eh R_ p_p v_).den) FU (v0,s10464)
def alv(R_:alu)(p_p:aP)(p_b0:aO):Mo (aO):=
 .cH [0] (gK p_p.fOp p_b0) fun r0 _=>
 .cH [0] (L9 p_p.cZ r0) fun r1 _=>
 .cH [0] (Cj p_p.fArg r1) fun r2 _=>
 .cH [0] (alq p_p.fArgs r2) fun r3 _=>
 .cH [0] (gK p_p.fN r3) fun r4 _=>
 .cH [0] (gK p_p.fM r4) fun r5 _=>
 .cH [0] (atO p_p.eF r5) fun r6 _=>
 .ask (Q67 p_p.fExpr r6) fun r7 h0=>
 .say [.jA [0] (.tup []) [dS r7],.num p_p.bJ.length] (okc (atP _ _ _ h0) (ok1 (ln_ p_p.bJ aP.lf)))<|
 .cH [0] (gK (p_p.bJ.length:Int) r7) fun r8 _=>
 .l1m [] Tryz.f199 1 [1,1,1,1,1,1,1,1,1,1,1,0] 0 (.exit 0) (fun(v0,s10464)=>⟨[(0,.ptr 0 0),(3,.ptr 1 0),(4,.i_ v0)],[dS s10464,dB p_p]⟩) (fun r_=>⟨[],[dS r_,.dead]⟩) (adu R_ p_p 0 r8) (Eh R_ p_p) (0,r8) fun r9=>
 .rt [] 1 (r9)
theorem apD(R_:alu):Wj fun p_p p_b0=>Mo.den (alv R_ p_p p_b0):=fun _ _=>ig Tryz.func199
def yI:Nat→alu
 |0=>{ m1:=fun p_p p_b0=>none,ok1:=fun _ _ _ h=>(by cases h) }
 |n_+1=>{ m1:=fun p_p p_b0=>Mo.den (alv (yI n_) p_p p_b0),ok1:=apD (yI n_) }
def Q72(p_p:aP)(p_b0:aO):Option (aO):=(yI FU).m1 p_p p_b0
theorem atQ:Wj Q72:=(yI FU).ok1
def Ei(p_x:aU):(Int×aO)→Mo ((Int×aO)⊕(aO)):=fun(v0,s8721)=>
 .nu p_x.gU bf.lf<|
 .iB (decide ((v0:Int)<(p_x.gU.length:Int))) (.gx bf.aX p_x.gU v0 fun x0 _=>
 .cH [0] (L9 x0.cZ s8721) fun r0 _=>
 .gx bf.aX p_x.gU v0 fun x1 _=>
 .cH [0] (vV x1.Il r0) fun r1 _=>
 .rt [0,3,4] 2 (.inl (IntKind.wrap .i64 (v0+1),r1)))<|
 .rt [0,3] 2 (.inr (s8721))
def adv(p_x:aU)(v0:Int)(s8721:aO):Option (aO):=bQ (fun v_=>(Ei p_x v_).den) FU (v0,s8721)
def aq0(p_x:aU)(p_b0:aO):Mo (aO):=
 .cH [0] (tJ p_x.fName p_b0) fun r0 _=>
 .ask (Q14 p_x.aK r0) fun r1 h0=>
 .say [.jA [0] (.tup []) [dS r1],.num p_x.gU.length] (okc (gK _ _ _ h0) (ok1 (ln_ p_x.gU bf.lf)))<|
 .cH [0] (gK (p_x.gU.length:Int) r1) fun r2 _=>
 .l1m [] Tryz.f157 1 [1,1,1,1,0,1,0] 0 (.exit 0) (fun(v0,s8721)=>⟨[(0,.ptr 0 0),(3,.ptr 1 0),(4,.i_ v0)],[dS s8721,mY p_x]⟩) (fun r_=>⟨[(0,.ptr 0 0),(3,.ptr 1 0)],[dS r_,mY p_x]⟩) (adv p_x 0 r2) (Ei p_x) (0,r2) fun r3=>
 .cH [0] (vV p_x.jG r3) fun r4 _=>
 .cH [0] (vV p_x.qI r4) fun r5 _=>
 .cH [0] (vV p_x.lQ r5) fun r6 _=>
 .cH [0] (atQ p_x.jr r6) fun r7 _=>
 .ret ⟨[.kill 1],[],[],1⟩ (r7)
def Q52(p_x:aU)(p_b0:aO):Option (aO):=Mo.den (aq0 p_x p_b0)
theorem Wn(p_x:aU)(p_b0:aO):FH (Q52 p_x p_b0) 157 [.ptr 0 0,.dat (aU.lf1 p_x)] [dS p_b0] (fun _=>.tup []) (fun r=>[dS r]):=ig Tryz.func157
abbrev Wp(m:aI→aO→Option (aO)):Prop:=∀p_s p_b0,FH (m p_s p_b0) 197 [.ptr 0 0,.dat (aI.lf1 p_s)] [dS p_b0] (fun _=>.tup []) (fun r=>[dS r])
structure adw where
 m1:(p_s:aI)→(p_b0:aO)→Option (aO)
 ok1:Wp m1
def Ej(R_:adw)(p_s:aI):(Int×aO)→Mo ((Int×aO)⊕(aO)):=fun(v0,s10601)=>
 .nu p_s.dD bH.lf<|
 .iB (decide ((v0:Int)<(p_s.dD.length:Int))) (.gx bH.aX p_s.dD v0 fun x0 _=>
 .cH [0] (tJ x0.fName s10601) fun r0 _=>
 .gx bH.aX p_s.dD v0 fun x1 _=>
 .cH [0] (R_.ok1 x1.dW r0) fun r1 _=>
 .rt [0,3,4] 2 (.inl (IntKind.wrap .i64 (v0+1),r1)))<|
 .rt [0,3] 2 (.inr (s10601))
def adx(R_:adw)(p_s:aI)(v0:Int)(s10601:aO):Option (aO):=bQ (fun v_=>(Ej R_ p_s v_).den) FU (v0,s10601)
def Em(R_:adw)(p_s:aI):(Int×aO)→Mo ((Int×aO)⊕(aO)):=fun(v0,s10652)=>
 .nu p_s.eP aI.lf<|
 .iB (decide ((v0:Int)<(p_s.eP.length:Int))) (.gx aI.aX p_s.eP v0 fun x0 _=>
 .cH [0] (R_.ok1 x0 s10652) fun r0 _=>
 .rt [0,3,5] 2 (.inl (IntKind.wrap .i64 (v0+1),r0)))<|
 .rt [0,3] 2 (.inr (s10652))
def ady(R_:adw)(p_s:aI)(v0:Int)(s10652:aO):Option (aO):=bQ (fun v_=>(Em R_ p_s v_).den) FU (v0,s10652)
def alx(R_:adw)(p_s:aI)(p_b0:aO):Mo (aO):=
 .cH [0] (gK p_s.jH p_b0) fun r0 _=>
 .cH [0] (vV p_s.kU r0) fun r1 _=>
 .cH [0] (Cj p_s.rM r1) fun r2 _=>
 .cH [0] (vV p_s.kV r2) fun r3 _=>
 .cH [0] (Cj p_s.rO r3) fun r4 _=>
 .cH [0] (alq p_s.iZ r4) fun r5 _=>
 .cH [0] (gK p_s.mG r5) fun r6 _=>
 .cH [0] (gK p_s.mJ r6) fun r7 _=>
 .ask (Q51 p_s.eu r7) fun r8 h0=>
 .say [.jA [0] (.tup []) [dS r8],.num p_s.dD.length] (okc (L9 _ _ _ h0) (ok1 (ln_ p_s.dD bH.lf)))<|
 .cH [0] (gK (p_s.dD.length:Int) r8) fun r9 _=>
 .l1m [] Tryz.f197 1 [1,1,1,1,1,1,1,1,1,1,1,0,1,0] 0 (.exit 0) (fun(v0,s10601)=>⟨[(0,.ptr 0 0),(3,.ptr 1 0),(4,.i_ v0)],[dS s10601,gq p_s]⟩) (fun r_=>⟨[(0,.ptr 0 0),(3,.ptr 1 0)],[dS r_,gq p_s]⟩) (adx R_ p_s 0 r9) (Ej R_ p_s) (0,r9) fun r10=>
 .ask (Q86 p_s.qJ r10) fun r11 h1=>
 .say [.jA [0] (.tup []) [dS r11],.num p_s.eP.length] (okc (vV _ _ _ h1) (ok1 (ln_ p_s.eP aI.lf)))<|
 .cH [0] (gK (p_s.eP.length:Int) r11) fun r12 _=>
 .l1m [] Tryz.f197 1 [1,1,1,1,1,1,1,1,1,1,1,1,1,1,0,1,0] 0 (.exit 2) (fun(v1,s10652)=>⟨[(0,.ptr 0 0),(3,.ptr 1 0),(5,.i_ v1)],[dS s10652,gq p_s]⟩) (fun r_=>⟨[(0,.ptr 0 0),(3,.ptr 1 0)],[dS r_,gq p_s]⟩) (ady R_ p_s 0 r12) (Em R_ p_s) (0,r12) fun r13=>
 .cH [0] (vV p_s.jG r13) fun r14 _=>
 .ret ⟨[.kill 1],[],[],1⟩ (r14)
theorem apE(R_:adw):Wp fun p_s p_b0=>Mo.den (alx R_ p_s p_b0):=fun _ _=>ig Tryz.func197
def tK:Nat→adw
 |0=>{ m1:=fun p_s p_b0=>none,ok1:=fun _ _ _ h=>(by cases h) }
 |n_+1=>{ m1:=fun p_s p_b0=>Mo.den (alx (tK n_) p_s p_b0),ok1:=apE (tK n_) }
def Q36(p_s:aI)(p_b0:aO):Option (aO):=(tK FU).m1 p_s p_b0
theorem atS:Wp Q36:=(tK FU).ok1
def En(p_d:cu):(Int×aO)→Mo ((Int×aO)⊕(aO)):=fun(v0,s10502)=>
 .nu p_d.bV aU.lf<|
 .iB (decide ((v0:Int)<(p_d.bV.length:Int))) (.gx aU.aX p_d.bV v0 fun x0 _=>
 .cH [0] (Wn x0 s10502) fun r0 _=>
 .rt [0,3,4] 2 (.inl (IntKind.wrap .i64 (v0+1),r0)))<|
 .rt [0,3] 2 (.inr (s10502))
def adz(p_d:cu)(v0:Int)(s10502:aO):Option (aO):=bQ (fun v_=>(En p_d v_).den) FU (v0,s10502)
def aq1(p_d:cu)(p_b0:aO):Mo (aO):=
 .ask (Q71 p_d.fName p_b0) fun r0 h0=>
 .say [.jA [0] (.tup []) [dS r0],.num p_d.bV.length] (okc (tJ _ _ _ h0) (ok1 (ln_ p_d.bV aU.lf)))<|
 .cH [0] (gK (p_d.bV.length:Int) r0) fun r1 _=>
 .l1m [] Tryz.f156 1 [1,1,1,0,1,0] 0 (.exit 0) (fun(v0,s10502)=>⟨[(0,.ptr 0 0),(3,.ptr 1 0),(4,.i_ v0)],[dS s10502,nV p_d]⟩) (fun r_=>⟨[(0,.ptr 0 0),(3,.ptr 1 0)],[dS r_,nV p_d]⟩) (adz p_d 0 r1) (En p_d) (0,r1) fun r2=>
 .cH [0] (atS p_d.dW r2) fun r3 _=>
 .cH [0] (gK p_d.ou r3) fun r4 _=>
 .cH [0] (gK p_d.jX r4) fun r5 _=>
 .ret ⟨[.kill 1],[],[],1⟩ (r5)
def Q62(p_d:cu)(p_b0:aO):Option (aO):=Mo.den (aq1 p_d p_b0)
theorem adA(p_d:cu)(p_b0:aO):FH (Q62 p_d p_b0) 156 [.ptr 0 0,.dat (cu.lf1 p_d)] [dS p_b0] (fun _=>.tup []) (fun r=>[dS r]):=ig Tryz.func156
def QJ(p_d:cu):Mo (Bool):=
 .iG 4003 (!decide ((p_d.fName:ByteArray)=(⟨#[]⟩:ByteArray))) (.rt [1,13] 1 (true))<|
 .nu p_d.bV aU.lf<|
 .rt [1,13] 1 (decide ((0:Int)<(p_d.bV.length:Int)))
def aly(p_d:cu):Mo (Bool):=
 .jk Tryz.f113 0 [1,0,0] 9 (fun r_=>⟨[(1,.ptr 0 0),(13,.b_ r_)],[nV p_d]⟩) ⟨[(1,.ptr 0 0)],[nV p_d]⟩ (QJ p_d) fun r0=>
 .iB (r0) (.ret (aY 1) (false))<|
 .say [.at_ 10 1,.norm 1] ok0<|
 .ask (Q62 p_d (aO.mk ⟨#[]⟩ false true)) fun r1 h0=>
 .say [.jA [1] (.tup []) [dS r1],.at_ 12 1,.tod 18,.norm 2] (ok1 (adA _ _ _ h0))<|
 .cH [2] (adA (cu.mk ⟨#[]⟩ [] aI.z 0 0) (aO.mk ⟨#[]⟩ false true)) fun r2 _=>
 .ret (aY 1) (decide ((r1.fS:ByteArray)=(r2.fS:ByteArray)))
def atT(p_d:cu):Option (Bool):=Mo.den (aly p_d)
theorem apF(p_d:cu):FV (atT p_d) 113 [.dat (cu.lf1 p_d)] .b_:=cO Tryz.func113
def alz(p_x:aU):Mo (Bool):=
 .say [.at_ 6 1,.norm 1] ok0<|
 .ask (Q52 p_x (aO.mk ⟨#[]⟩ false true)) fun r0 h0=>
 .say [.jA [1] (.tup []) [dS r0],.at_ 8 1,.tod 9,.norm 2] (ok1 (Wn _ _ _ h0))<|
 .cH [2] (Wn aU.z (aO.mk ⟨#[]⟩ false true)) fun r1 _=>
 .ret (aY 1) (decide ((r0.fS:ByteArray)=(r1.fS:ByteArray)))
def atU(p_x:aU):Option (Bool):=Mo.den (alz p_x)
theorem apG(p_x:aU):FV (atU p_x) 114 [.dat (aU.lf1 p_x)] .b_:=cO Tryz.func114
def Wq(p_kind:Int):Mo (Bool):=
 .iG 4002 (decide ((9:Int)≤p_kind)) (.ret (aY 1) (decide ((p_kind:Int)≤12)))<|
 .ret (aY 1) (false)
def apH(p_kind:Int):Option (Bool):=Mo.den (Wq p_kind)
theorem afT(p_kind:Int):FV (apH p_kind) 74 [.i_ p_kind] .b_:=cO Tryz.func74
def Me(p_kind:Int):Mo (Bool):=
 .iG 4002 (p_kind==8) (.ret (aY 1) (true))<|
 .ret (aY 1) (p_kind==9)
def alA(p_kind:Int):Option (Bool):=Mo.den (Me p_kind)
theorem afU(p_kind:Int):FV (alA p_kind) 72 [.i_ p_kind] .b_:=cO Tryz.func72
def Zu(p_w:aH):Mo (aU):=
 .iB (p_w.aK==7) (.ret ⟨[.norm 1],[1,3,4],[],2⟩ (aU.Ox p_w.bP ⟨#[]⟩))<|
 .ret ⟨[.norm 1],[1,3,4],[],2⟩ (p_w.bP)
def Zv(p_w:aH)(r0:aU):Mo (Bool):=
 .cl (afG p_w.aK) fun r1 _=>
 .oV 12002 (r1) [1,3,4,18] 2 (decide ((p_w.iO:ByteArray)=(⟨#[]⟩:ByteArray)))
def QK(p_w:aH)(r0:aU)(r1:Bool):Mo (Bool):=
 .iG 12007 (r1) (.cl (VX p_w.aK) fun r2 _=>
 .iG 12010 (r2) (.rt [1,3,4,37] 2 (true))<|
 .cl (vU p_w.jh) fun r3 _=>
 .iG 12014 (r3) (.cl (vU p_w.eX) fun r4 _=>
 .aV 12019 (r4) [1,3,4,37] 2 (!p_w.iK))<|
 .rt [1,3,4,37] 2 (false))<|
 .rt [1,3,4,37] 2 (false)
def QL(p_w:aH)(r0:aU)(r1:Bool):Mo (Bool):=
 .iG 12026 (r1) (.iG 12029 (p_w.aK==2) (.rt [1,3,4,46] 2 (true))<|
 .cl (vU p_w.bC) fun r2 _=>
 .rt [1,3,4,46] 2 (r2))<|
 .rt [1,3,4,46] 2 (false)
def QM(p_w:aH)(r0:aU)(r1:Bool):Mo (Bool):=
 .iG 12035 (r1) (.iG 12038 (p_w.aK==4) (.rt [1,3,4,55] 2 (true))<|
 .cl (apF p_w.kM) fun r2 _=>
 .rt [1,3,4,55] 2 (r2))<|
 .rt [1,3,4,55] 2 (false)
def QN(p_w:aH)(r0:Bool)(r1:aU):Mo (Bool):=
 .iG 12044 (r0) (.iG 12047 (p_w.aK==6) (.ret ⟨[.kill 1],[1,3,63],[],2⟩ (true))<|
 .cl (apG r1) fun r2 _=>
 .ret ⟨[.kill 1],[1,3,63],[],2⟩ (r2))<|
 .ret ⟨[.kill 1],[1,3,63],[],2⟩ (false)
def QO(p_w:aH)(r0:Bool):Mo (Bool):=
 .iG 12052 (r0) (.cl (afT p_w.aK) fun r1 _=>
 .oV 12055 (r1) [1,3,72] 2 (decide ((p_w.oz:ByteArray)=(⟨#[]⟩:ByteArray))))<|
 .rt [1,3,72] 2 (false)
def G6(p_w:aH)(r0:Bool):Mo (Bool):=
 .iG 12061 (r0) (.iG 12064 (p_w.aK==10) (.rt [1,3,85] 2 (true))<|
 .oV 12068 (p_w.aK==12) [1,3,85] 2 (p_w.dQ==0))<|
 .rt [1,3,85] 2 (false)
def G7(p_w:aH)(r0:Bool):Mo (Bool):=
 .iG 12074 (r0) (.cl (afU p_w.aK) fun r1 _=>
 .iG 12077 (r1) (.rt [1,3,95] 2 (true))<|
 .nu p_w.dh aH.lf<|
 .rt [1,3,95] 2 ((p_w.dh.length:Int)==0))<|
 .rt [1,3,95] 2 (false)
def G8(p_w:aH)(r0:Bool):Mo (Bool):=
 .iG 12084 (r0) (.iG 12087 (p_w.aK==12) (.ret ⟨[.kill 0],[105],[],2⟩ (true))<|
 .nu p_w.dZ lfI<|
 .ret ⟨[.kill 0],[105],[],2⟩ ((p_w.dZ.length:Int)==0))<|
 .ret ⟨[.kill 0],[105],[],2⟩ (false)
def QS(r0:Bool):Mo (Unit):=
 .rt [2] 2 ()
def alB(p_w:aH):Mo (Bool):=
 .jk Tryz.f71 0 [1,1,1,0,1] 1 (fun r_=>⟨[(1,.ptr 0 0),(3,.i_ p_w.aK),(4,.ptr 1 0)],[dR p_w,mY r_]⟩) ⟨[(1,.ptr 0 0),(3,.i_ p_w.aK),(4,.ptr 1 0),(10,.lf (.bool (p_w.aK==7)))],[dR p_w,.box 49 (.agg ((aU.lf1 p_w.bP).map AV.lf))]⟩ (Zu p_w) fun r0=>
 .sf Tryz.f71 0 [1,1,1,1,0] 0 7 5 [(1,.ptr 0 0),(3,.i_ p_w.aK),(4,.ptr 1 0)] [dR p_w,mY r0] 18 (Zv p_w r0) fun r1=>
 .sb Tryz.f71 0 [1,1,1,1,0] 7 19 5 [(1,.ptr 0 0),(3,.i_ p_w.aK),(4,.ptr 1 0)] [dR p_w,mY r0] 18 37 r1 (QK p_w r0 r1) fun r2=>
 .sb Tryz.f71 0 [1,1,1,1,0] 26 9 5 [(1,.ptr 0 0),(3,.i_ p_w.aK),(4,.ptr 1 0)] [dR p_w,mY r0] 37 46 r2 (QL p_w r0 r2) fun r3=>
 .sb Tryz.f71 0 [1,1,1,1,0] 35 9 5 [(1,.ptr 0 0),(3,.i_ p_w.aK),(4,.ptr 1 0)] [dR p_w,mY r0] 46 55 r3 (QM p_w r0 r3) fun r4=>
 .sk Tryz.f71 0 [1,1,1,1,0] 44 8 5 (fun r_=>⟨[(1,.ptr 0 0),(3,.i_ p_w.aK),(63,.b_ r_)],[dR p_w,.dead]⟩) ⟨[(1,.ptr 0 0),(3,.i_ p_w.aK),(4,.ptr 1 0),(55,.b_ r4)],[dR p_w,mY r0]⟩ (QN p_w r4 r0) fun r5=>
 .sb Tryz.f71 0 [1,1,1,1,0] 52 9 5 [(1,.ptr 0 0),(3,.i_ p_w.aK)] [dR p_w,.dead] 63 72 r5 (QO p_w r5) fun r6=>
 .sb Tryz.f71 0 [1,1,1,1,0] 61 13 5 [(1,.ptr 0 0),(3,.i_ p_w.aK)] [dR p_w,.dead] 72 85 r6 (G6 p_w r6) fun r7=>
 .sb Tryz.f71 0 [1,1,1,1,0] 74 10 5 [(1,.ptr 0 0),(3,.i_ p_w.aK)] [dR p_w,.dead] 85 95 r7 (G7 p_w r7) fun r8=>
 .sk Tryz.f71 0 [1,1,1,1,0] 84 10 5 (fun r_=>⟨[(105,.b_ r_)],[.dead,.dead]⟩) ⟨[(1,.ptr 0 0),(3,.i_ p_w.aK),(95,.b_ r8)],[dR p_w,.dead]⟩ (G8 p_w r8) fun r9=>
 .sk Tryz.f71 0 [1,1,1,1,0] 94 1 5 (fun r_=>⟨[(2,.b_ r9)],[.dead,.dead]⟩) ⟨[(105,.b_ r9)],[.dead,.dead]⟩ (QS r9) fun r10=>
 .ret (aY 1) (r9)
def Q15(p_w:aH):Option (Bool):=Mo.den (alB p_w)
theorem atV(p_w:aH):FV (Q15 p_w) 71 [.dat (aH.lf1 p_w)] .b_:=cO Tryz.func71
theorem awu:NY (opsOf (Code.sub (bodyC Tryz.f75) [1,0,1,0,0,1,0,0,0])) [(true,0),(true,1),(true,2),(true,3),(true,4),(true,5),(true,6),(true,7),(true,8),(true,9),(true,10),(true,11),(true,12),(true,13),(true,14),(true,15),(true,16),(true,17),(true,18),(true,19),(true,20),(true,21),(true,22),(true,23),(true,24),(true,25),(true,26),(true,27)] none=true:=by kernel_rfl
def Zw(p_l:List Int)(v0:Int):Mo (Bool):=
 .say [.sQ [(true,0),(true,1),(true,2),(true,3),(true,4),(true,5),(true,6),(true,7),(true,8),(true,9),(true,10),(true,11),(true,12),(true,13),(true,14),(true,15),(true,16),(true,17),(true,18),(true,19),(true,20),(true,21),(true,22),(true,23),(true,24),(true,25),(true,26),(true,27)] none []] (ok1 awu)<|
 .gx lI_ p_l v0 fun x0 _=>
 .iG 10005 (decide ((x0:Int)<0)) (.rt [0,3,37] 0 (true))<|
 .gx lI_ p_l v0 fun x1 _=>
 .iG 10012 (decide ((8:Int)≤x1)) (.rt [0,3,37] 0 (true))<|
 .iG 10015 (decide ((0:Int)<v0)) (.gx lI_ p_l (IntKind.wrap .i64 (v0-1)) fun x2 _=>
 .gx lI_ p_l v0 fun x3 _=>
 .rt [0,3,37] 0 (decide ((x3:Int)≤x2)))<|
 .rt [0,3,37] 0 (false)
def Eo(p_l:List Int):(Int)→Mo ((Int)⊕(Unit⊕Unit)):=fun(v0)=>
 .nu p_l lfI<|
 .iB (decide ((v0:Int)<(p_l.length:Int))) (.jk Tryz.f75 0 [1,0,1,0,0,1,0,0,0] 15 (fun r_=>⟨[(0,.lf (.rows 1 (p_l.map lfI))),(3,.i_ v0),(37,.b_ r_)],[]⟩) ⟨[(0,.lf (.rows 1 (p_l.map lfI))),(3,.i_ v0)],[]⟩ (Zw p_l v0) fun r0=>
 .iB (r0) (.rt [2] 0 (.inr (.inl ())))<|
 .rt [0,3] 0 (.inl (IntKind.wrap .i64 (v0+1))))<|
 .rt [0] 0 (.inr (.inr (())))
def adB(p_l:List Int)(v0:Int):Option (Unit⊕Unit):=bQ (fun v_=>(Eo p_l v_).den) FU (v0)
def aq2(p_l:List Int):Mo (Bool):=
 .l2m [] Tryz.f75 0 [1,0,1,0] 0 (fun(v0)=>⟨[(0,.lf (.rows 1 (p_l.map lfI))),(3,.i_ v0)],[]⟩) .ret (fun _=>⟨[(2,.b_ false)],[]⟩) (.exit 0) (fun _=>⟨[(0,.lf (.rows 1 (p_l.map lfI)))],[]⟩) (adB p_l 0) (Eo p_l) (0) (fun o0=>
 .ret (aY 1) (false)) fun o1=>
 .nu p_l lfI<|
 .ret (aY 1) (decide ((0:Int)<(p_l.length:Int)))
def Q78(p_l:List Int):Option (Bool):=Mo.den (aq2 p_l)
theorem atW(p_l:List Int):FV (Q78 p_l) 75 [.lf (.rows 1 (p_l.map lfI))] .b_:=cO Tryz.func75
def Zx(p_v:ah):Mo (Bool):=
 .cl (su p_v) fun r0 _=>
 .aV 4002 (r0) [1,2,9] 1 (p_v.aK != 6)
def Zy(p_v:ah)(r0:Bool):Mo (Bool):=
 .aV 4007 (r0) [1,2,14] 1 (p_v.aK != 1)
def QT(p_v:ah)(r0:Bool):Mo (Bool):=
 .iG 4012 (r0) (.ret ⟨[.kill 0],[2,19],[],1⟩ (p_v.aK != 11))<|
 .ret ⟨[.kill 0],[2,19],[],1⟩ (false)
def aq3(p_v:ah):Mo (Bool):=
 .sf Tryz.f77 0 [1,0] 0 7 1 [(1,.ptr 0 0),(2,.b_ false)] [bG p_v] 9 (Zx p_v) fun r0=>
 .sb Tryz.f77 0 [1,0] 7 5 1 [(1,.ptr 0 0),(2,.b_ false)] [bG p_v] 9 14 r0 (Zy p_v r0) fun r1=>
 .sk Tryz.f77 0 [1,0] 12 5 1 (fun r_=>⟨[(2,.b_ false),(19,.b_ r_)],[.dead]⟩) ⟨[(1,.ptr 0 0),(2,.b_ false),(14,.b_ r1)],[bG p_v]⟩ (QT p_v r1) fun r2=>
 .sk Tryz.f77 0 [1,0] 17 1 1 (fun r_=>⟨[(2,.b_ r2)],[.dead]⟩) ⟨[(2,.b_ false),(19,.b_ r2)],[.dead]⟩ (dG r2) fun r3=>
 .ret (aY 1) (r2)
def Q76(p_v:ah):Option (Bool):=Mo.den (aq3 p_v)
theorem atX(p_v:ah):FV (Q76 p_v) 77 [.dat (ah.lf1 p_v)] .b_:=cO Tryz.func77
def QU(p_doc:ah):Mo (Bool):=
 .cl (su p_doc) fun r0 _=>
 .iG 4003 (!r0) (.rt [1,2,13] 2 (true))<|
 .nu p_doc.bC aN.lf<|
 .rt [1,2,13] 2 ((p_doc.bC.length:Int)==0)
def QV(p_doc:ah)(r0:Bool):Mo (Bool):=
 .iG 4009 (r0) (.rt [1,2,21] 2 (true))<|
 .gx aN.aX p_doc.bC 0 fun x0 _=>
 .rt [1,2,21] 2 (!decide ((x0.fName:ByteArray)=(⟨#[95,105,100]⟩:ByteArray)))
def MB(x0:aN):Mo (Bool):=
 .oV 10003 (x0.fValue.aK==6) [2,4,35] 3 (x0.fValue.aK==1)
def MC(r0:Bool)(x0:aN):Mo (Bool):=
 .oV 10008 (r0) [2,4,40] 3 (x0.fValue.aK==11)
def alC(p_doc:ah):Mo (ah×Bool):=
 .sf Tryz.f161 0 [1,0,0] 0 9 1 [(1,.ptr 0 0),(2,.ptr 1 0)] [bG p_doc,.box 29 (.agg [.i_ 0,.i_ 0,.lf (.str ⟨#[]⟩),.dw 5,.dw 6])] 13 (QU p_doc) fun r0=>
 .sb Tryz.f161 0 [1,0,0] 9 8 1 [(1,.ptr 0 0),(2,.ptr 1 0)] [bG p_doc,.box 29 (.agg [.i_ 0,.i_ 0,.lf (.str ⟨#[]⟩),.dw 5,.dw 6])] 13 21 r0 (QV p_doc r0) fun r1=>
 .iB (r1) (.ret (aY 2) (ah.mk 0 0 ⟨#[]⟩ [] [],false))<|
 .gx aN.aX p_doc.bC 0 fun x0 _=>
 .sy [.kill 0] Tryz.f161 0 [1,1,1,0,0] 0 8 4 (fun r_=>⟨[(2,.ptr 1 0),(4,.ptr 2 0),(35,.b_ r_)],[.dead,.box 29 (.agg [.i_ 0,.i_ 0,.lf (.str ⟨#[]⟩),.dw 5,.dw 6]),.box 29 (.agg [.i_ x0.fValue.aK,.i_ x0.fValue.je,.lf (.str x0.fValue.fText),.lf (.rows 5 (x0.fValue.bF.map ah.lf)),.lf (.rows 6 (x0.fValue.bC.map aN.lf))])]⟩) ⟨[(2,.ptr 1 0),(4,.ptr 2 0)],[.dead,.box 29 (.agg [.i_ 0,.i_ 0,.lf (.str ⟨#[]⟩),.dw 5,.dw 6]),.box 29 (.agg [.i_ x0.fValue.aK,.i_ x0.fValue.je,.lf (.str x0.fValue.fText),.lf (.rows 5 (x0.fValue.bF.map ah.lf)),.lf (.rows 6 (x0.fValue.bC.map aN.lf))])]⟩ (MB x0) fun r2=>
 .sb Tryz.f161 0 [1,1,1,0,0] 8 5 4 [(2,.ptr 1 0),(4,.ptr 2 0)] [.dead,.box 29 (.agg [.i_ 0,.i_ 0,.lf (.str ⟨#[]⟩),.dw 5,.dw 6]),.box 29 (.agg [.i_ x0.fValue.aK,.i_ x0.fValue.je,.lf (.str x0.fValue.fText),.lf (.rows 5 (x0.fValue.bF.map ah.lf)),.lf (.rows 6 (x0.fValue.bC.map aN.lf))])] 35 40 r2 (MC r2 x0) fun r3=>
 .iB (r3) (.ret (aY 2) (ah.mk 0 0 ⟨#[]⟩ [] [],false))<|
 .ret (aY 2) (x0.fValue,true)
def avD(p_doc:ah):Option (ah×Bool):=Mo.den (alC p_doc)
theorem apI(p_doc:ah):FV (avD p_doc) 161 [.dat (ah.lf1 p_doc)] (fun r=>.tup [.dat (ah.lf1 r.1),.b_ r.2]):=cO Tryz.func161
def alD(p_v:ah):Mo (Int×Int):=
 .cl (afS p_v) fun r0 _=>
 .ret (aY 2) ((r0.1.size:Int),r0.2)
def atY(p_v:ah):Option (Int×Int):=Mo.den (alD p_v)
theorem apJ(p_v:ah):FV (atY p_v) 162 [.dat (ah.lf1 p_v)] (fun r=>.tup [.i_ r.1,.i_ r.2]):=cO Tryz.func162
def alE(p_doc:ah):Mo (Int):=
 .cl (apI p_doc) fun r0 _=>
 .iB (!r0.2) (.ret (aY 1) (8))<|
 .cl (apJ p_doc) fun r1 _=>
 .iB (r1.2 != 0) (.ret (aY 1) (r1.2))<|
 .iB (decide ((16384:Int)<r1.1)) (.ret (aY 1) (2))<|
 .ret (aY 1) (0)
def avE(p_doc:ah):Option (Int):=Mo.den (alE p_doc)
theorem afV(p_doc:ah):FV (avE p_doc) 117 [.dat (ah.lf1 p_doc)] .i_:=cO Tryz.func117
def alF(p_a:Int)(p_b:Int):Mo (Int):=
 .iB (decide ((p_a:Int)<p_b)) (.ret (aY 1) ((-1)))<|
 .iB (decide ((p_b:Int)<p_a)) (.ret (aY 1) (1))<|
 .ret (aY 1) (0)
def apK(p_a:Int)(p_b:Int):Option (Int):=Mo.den (alF p_a p_b)
theorem Ak(p_a:Int)(p_b:Int):FV (apK p_a p_b) 163 [.i_ p_a,.i_ p_b] .i_:=cO Tryz.func163
def MF(p_a:ByteArray)(p_b:ByteArray)(v0:Int):Mo (Bool):=
 .aV 6004 (decide ((v0:Int)<(p_a.size:Int))) [0,1,5,15] 0 (decide ((v0:Int)<(p_b.size:Int)))
def Ep(p_a:ByteArray)(p_b:ByteArray):(Int)→Mo ((Int)⊕(Int)⊕Unit):=fun(v0)=>
 .jk Tryz.f164 0 [1,0,1,0,0,0,0] 11 (fun r_=>⟨[(0,.lf (.str p_a)),(1,.lf (.str p_b)),(5,.i_ v0),(15,.b_ r_)],[]⟩) ⟨[(0,.lf (.str p_a)),(1,.lf (.str p_b)),(5,.i_ v0)],[]⟩ (MF p_a p_b v0) fun r0=>
 .iB (r0) (.say [.order [(true,0),(true,1),(true,2),(true,3),(true,4),(true,5),(true,6)] none []] ok0<|
 .ask (lS p_a v0) fun b0 h0=>
 .say [.byt b0] (ok1 (iy h0))<|
 .ask (lS p_b v0) fun b1 h1=>
 .say [.byt b1] (ok1 (iy h1))<|
 .iB ((b0.toNat:Int) != (b1.toNat:Int)) (.ask (lS p_a v0) fun b2 h2=>
 .say [] (ok1 (iy h2))<|
 .ask (lS p_b v0) fun b3 h3=>
 .say [] (ok1 (iy h3))<|
 .ask (apK (IntKind.wrap .i64 (b2.toNat:Int)) (IntKind.wrap .i64 (b3.toNat:Int))) fun r1 h4=>
 .say [.gY (.q 0 (.q 1 (.q 2 (.q 3 (.q 4 (.q 5 (.q 6 (.q 7 (.l 8 (.q 9 .fin)))))))))) (some 8) [] [.byt b2,.byt b3,.res (.i_ r1)] [4] 0 [(4,.i_ r1)] []] (okc (Ak _ _ _ h4) (ok1 (rf_ ⟨[(4,.i_ r1)],[]⟩)))<|
 .rt [4] 0 (.inr (.inl (r1))))<|
 .rt [0,1,5] 0 (.inl (IntKind.wrap .i64 (v0+1))))<|
 .rt [0,1] 0 (.inr (.inr (())))
def adC(p_a:ByteArray)(p_b:ByteArray)(v0:Int):Option ((Int)⊕Unit):=bQ (fun v_=>(Ep p_a p_b v_).den) FU (v0)
def aq4(p_a:ByteArray)(p_b:ByteArray):Mo (Int):=
 .l2m [] Tryz.f164 0 [1,0,1,0] 0 (fun(v0)=>⟨[(0,.lf (.str p_a)),(1,.lf (.str p_b)),(5,.i_ v0)],[]⟩) .ret (fun o_=>⟨[(4,.i_ o_)],[]⟩) (.exit 0) (fun _=>⟨[(0,.lf (.str p_a)),(1,.lf (.str p_b))],[]⟩) (adC p_a p_b 0) (Ep p_a p_b) (0) (fun o0=>
 .ret (aY 1) (o0)) fun o1=>
 .cl (Ak (p_a.size:Int) (p_b.size:Int)) fun r0 _=>
 .ret (aY 1) (r0)
def Q64(p_a:ByteArray)(p_b:ByteArray):Option (Int):=Mo.den (aq4 p_a p_b)
theorem alG(p_a:ByteArray)(p_b:ByteArray):FV (Q64 p_a p_b) 164 [.lf (.str p_a),.lf (.str p_b)] .i_:=cO Tryz.func164
abbrev Ws(m:ah→ah→Option (Int)):Prop:=∀p_a p_b,FV (m p_a p_b) 118 [.dat (ah.lf1 p_a),.dat (ah.lf1 p_b)] .i_
structure IK where
 m1:(p_a:ah)→(p_b:ah)→Option (Int)
 ok1:Ws m1
def Zz(R_:IK)(p_a:ah)(p_b:ah):Mo (Bool):=
 .iB (p_a.aK==3) (.rt [2,3,20,21] 2 (p_a.aK==3))<|
 .iB (p_a.aK==9) (.rt [2,3,20,21] 2 (p_a.aK==9))<|
 .rt [2,3,20,21] 2 (p_a.aK==10)
def ZA(R_:IK)(p_a:ah)(p_b:ah):Mo (Bool):=
 .iB (p_a.aK==4) (.rt [2,3,20,30] 2 (p_a.aK==4))<|
 .iB (p_a.aK==7) (.rt [2,3,20,30] 2 (p_a.aK==7))<|
 .rt [2,3,20,30] 2 (p_a.aK==8)
def G9(R_:IK)(p_a:ah)(p_b:ah)(v0:Int):Mo (Bool):=
 .nu p_a.bF ah.lf<|
 .iG 30005 (decide ((v0:Int)<(p_a.bF.length:Int))) (.nu p_b.bF ah.lf<|
 .rt [2,3,5,52] 2 (decide ((v0:Int)<(p_b.bF.length:Int))))<|
 .rt [2,3,5,52] 2 (false)
def Am(R_:IK)(p_a:ah)(p_b:ah):(Int)→Mo ((Int)⊕(Int)⊕Unit):=fun(v0)=>
 .jk Tryz.f118 0 [1,1,0,1,0,1,1,1,1,1,0,0,1,0,0,0,0] 35 (fun r_=>⟨[(2,.ptr 0 0),(3,.ptr 1 0),(5,.i_ v0),(52,.b_ r_)],[bG p_a,bG p_b]⟩) ⟨[(2,.ptr 0 0),(3,.ptr 1 0),(5,.i_ v0)],[bG p_a,bG p_b]⟩ (G9 R_ p_a p_b v0) fun r0=>
 .iB (r0) (.ask (fQ p_a.bF v0) fun x0 h0=>
 .say [] (ok1 (bU ah.aX h0))<|
 .ask (fQ p_b.bF v0) fun x1 h1=>
 .say [] (ok1 (bU ah.aX h1))<|
 .ask (R_.m1 x0 x1) fun r1 h2=>
 .say [.gY (.q 0 (.q 1 (.q 2 (.q 3 (.q 4 (.q 5 (.q 6 (.q 7 (.q 8 (.q 9 (.l 10 (.q 11 .fin)))))))))))) (some 10) [] [.row (ah.lf1 x0),.row (ah.lf1 x1),.res (.i_ r1)] [2,3,5,6] 2 [(2,.ptr 0 0),(3,.ptr 1 0),(5,.i_ v0),(6,.i_ r1)] [bG p_a,bG p_b]] (okc (R_.ok1 _ _ _ h2) (ok1 (rf_ ⟨[(2,.ptr 0 0),(3,.ptr 1 0),(5,.i_ v0),(6,.i_ r1)],[bG p_a,bG p_b]⟩)))<|
 .iB (r1 != 0) (.ret ⟨[.kill 0,.kill 1],[4],[],2⟩ (.inr (.inl (r1))))<|
 .rt [2,3,5] 2 (.inl (IntKind.wrap .i64 (v0+1))))<|
 .rt [2,3] 2 (.inr (.inr (())))
def Wu(R_:IK)(p_a:ah)(p_b:ah)(v0:Int):Option ((Int)⊕Unit):=bQ (fun v_=>(Am R_ p_a p_b v_).den) FU (v0)
def He(R_:IK)(p_a:ah)(p_b:ah)(v0:Int):Mo (Bool):=
 .nu p_a.bC aN.lf<|
 .iG 46005 (decide ((v0:Int)<(p_a.bC.length:Int))) (.nu p_b.bC aN.lf<|
 .rt [2,3,7,89] 2 (decide ((v0:Int)<(p_b.bC.length:Int))))<|
 .rt [2,3,7,89] 2 (false)
def QW(R_:IK)(p_a:ah)(p_b:ah)(r0:Int)(v0:Int):Mo (Int):=
 .iB (r0==0) (.ask (fQ p_a.bC v0) fun x0 h0=>
 .say [] (ok1 (bU aN.aX h0))<|
 .ask (fQ p_b.bC v0) fun x1 h1=>
 .say [] (ok1 (bU aN.aX h1))<|
 .ask (R_.m1 x0.fValue x1.fValue) fun r1 h2=>
 .say [.gY (.q 0 (.q 1 (.q 2 (.q 3 (.q 4 (.q 5 (.q 6 (.q 7 (.q 8 (.q 9 (.q 10 (.q 11 (.l 12 (.q 13 .fin)))))))))))))) (some 12) [] [.row (aN.lf1 x0),.row (aN.lf1 x1),.res (.i_ r1)] [2,3,7,8] 2 [(2,.ptr 0 0),(3,.ptr 1 0),(7,.i_ v0),(8,.i_ r1)] [bG p_a,bG p_b]] (okc (R_.ok1 _ _ _ h2) (ok1 (rf_ ⟨[(2,.ptr 0 0),(3,.ptr 1 0),(7,.i_ v0),(8,.i_ r1)],[bG p_a,bG p_b]⟩)))<|
 .rt [2,3,7,8] 2 (r1))<|
 .rt [2,3,7,8] 2 (r0)
def Aq(R_:IK)(p_a:ah)(p_b:ah):(Int)→Mo ((Int)⊕(Int)⊕Unit):=fun(v0)=>
 .jk Tryz.f118 0 [1,1,0,1,0,1,1,1,1,1,1,1,0,0,1,0,0,0,0] 51 (fun r_=>⟨[(2,.ptr 0 0),(3,.ptr 1 0),(7,.i_ v0),(89,.b_ r_)],[bG p_a,bG p_b]⟩) ⟨[(2,.ptr 0 0),(3,.ptr 1 0),(7,.i_ v0)],[bG p_a,bG p_b]⟩ (He R_ p_a p_b v0) fun r0=>
 .iB (r0) (.ask (fQ p_a.bC v0) fun x0 h0=>
 .say [] (ok1 (bU aN.aX h0))<|
 .ask (fQ p_b.bC v0) fun x1 h1=>
 .say [] (ok1 (bU aN.aX h1))<|
 .ask (Q64 x0.fName x1.fName) fun r1 h2=>
 .say [.gY (.q 0 (.q 1 (.q 2 (.q 3 (.q 4 (.q 5 (.q 6 (.q 7 (.q 8 (.q 9 (.q 10 (.q 11 (.l 12 (.q 13 .fin)))))))))))))) (some 12) [] [.row (aN.lf1 x0),.row (aN.lf1 x1),.res (.i_ r1)] [2,3,7,8] 2 [(2,.ptr 0 0),(3,.ptr 1 0),(7,.i_ v0),(8,.i_ r1)] [bG p_a,bG p_b]] (okc (alG _ _ _ h2) (ok1 (rf_ ⟨[(2,.ptr 0 0),(3,.ptr 1 0),(7,.i_ v0),(8,.i_ r1)],[bG p_a,bG p_b]⟩)))<|
 .jk Tryz.f118 0 [1,1,0,1,0,1,1,1,1,1,1,1,0,0,1,0,0,1,0,0,1,0,1] 1 (fun r_=>⟨[(2,.ptr 0 0),(3,.ptr 1 0),(7,.i_ v0),(8,.i_ r_)],[bG p_a,bG p_b]⟩) ⟨[(2,.ptr 0 0),(3,.ptr 1 0),(7,.i_ v0),(8,.i_ r1),(106,.lf (.bool (r1==0)))],[bG p_a,bG p_b]⟩ (QW R_ p_a p_b r1 v0) fun r2=>
 .iB (r2 != 0) (.ret ⟨[.kill 0,.kill 1],[4],[],2⟩ (.inr (.inl (r2))))<|
 .rt [2,3,7] 2 (.inl (IntKind.wrap .i64 (v0+1))))<|
 .rt [2,3] 2 (.inr (.inr (())))
def Wv(R_:IK)(p_a:ah)(p_b:ah)(v0:Int):Option ((Int)⊕Unit):=bQ (fun v_=>(Aq R_ p_a p_b v_).den) FU (v0)
def afW(R_:IK)(p_a:ah)(p_b:ah):Mo (Int):=
 .iB (p_a.aK != p_b.aK) (.cl (Ak p_a.aK p_b.aK) fun r0 _=>
 .ret (aY 1) (r0))<|
 .jk Tryz.f118 0 [1,1,0,1,0,0,1] 1 (fun r_=>⟨[(2,.ptr 0 0),(3,.ptr 1 0),(20,.i_ p_a.aK),(21,.b_ r_)],[bG p_a,bG p_b]⟩) ⟨[(2,.ptr 0 0),(3,.ptr 1 0),(20,.i_ p_a.aK),(21,.lf (.bool (p_a.aK==3)))],[bG p_a,bG p_b]⟩ (Zz R_ p_a p_b) fun r1=>
 .iB (r1) (.cl (Ak p_a.je p_b.je) fun r2 _=>
 .ret (aY 1) (r2))<|
 .jk Tryz.f118 0 [1,1,0,1,0,1,1,0,1] 1 (fun r_=>⟨[(2,.ptr 0 0),(3,.ptr 1 0),(20,.i_ p_a.aK),(30,.b_ r_)],[bG p_a,bG p_b]⟩) ⟨[(2,.ptr 0 0),(3,.ptr 1 0),(20,.i_ p_a.aK),(30,.lf (.bool (p_a.aK==4)))],[bG p_a,bG p_b]⟩ (ZA R_ p_a p_b) fun r3=>
 .iB (r3) (.cl (alG p_a.fText p_b.fText) fun r4 _=>
 .ret (aY 1) (r4))<|
 .iB (p_a.aK==6) (.l2m [] Tryz.f118 0 [1,1,0,1,0,1,1,1,1,1,0,0,1,0] 0 (fun(v0)=>⟨[(2,.ptr 0 0),(3,.ptr 1 0),(5,.i_ v0)],[bG p_a,bG p_b]⟩) .ret (fun o_=>⟨[(4,.i_ o_)],[.dead,.dead]⟩) (.exit 1) (fun _=>⟨[(2,.ptr 0 0),(3,.ptr 1 0)],[bG p_a,bG p_b]⟩) (Wu R_ p_a p_b 0) (Am R_ p_a p_b) (0) (fun o0=>
 .ret (aY 1) (o0)) fun o1=>
 .nu p_a.bF ah.lf<|
 .nu p_b.bF ah.lf<|
 .cl (Ak (p_a.bF.length:Int) (p_b.bF.length:Int)) fun r5 _=>
 .ret (aY 1) (r5))<|
 .iB (p_a.aK==5) (.l2m [] Tryz.f118 0 [1,1,0,1,0,1,1,1,1,1,1,1,0,0,1,0] 0 (fun(v1)=>⟨[(2,.ptr 0 0),(3,.ptr 1 0),(7,.i_ v1)],[bG p_a,bG p_b]⟩) .ret (fun o_=>⟨[(4,.i_ o_)],[.dead,.dead]⟩) (.exit 3) (fun _=>⟨[(2,.ptr 0 0),(3,.ptr 1 0)],[bG p_a,bG p_b]⟩) (Wv R_ p_a p_b 0) (Aq R_ p_a p_b) (0) (fun o2=>
 .ret (aY 1) (o2)) fun o3=>
 .nu p_a.bC aN.lf<|
 .nu p_b.bC aN.lf<|
 .cl (Ak (p_a.bC.length:Int) (p_b.bC.length:Int)) fun r6 _=>
 .ret (aY 1) (r6))<|
 .ret (aY 1) (0)
theorem apL(R_:IK):Ws fun p_a p_b=>Mo.den (afW R_ p_a p_b):=fun _ _=>cO Tryz.func118
def qZ:Nat→IK
 |0=>{ m1:=fun p_a p_b=>none,ok1:=fun _ _ _ h=>(by cases h) }
 |n_+1=>{ m1:=fun p_a p_b=>Mo.den (afW (qZ n_) p_a p_b),ok1:=apL (qZ n_) }
def Q13(p_a:ah)(p_b:ah):Option (Int):=(qZ FU).m1 p_a p_b
theorem atZ:Ws Q13:=(qZ FU).ok1
def QX(p_doc:ah)(p_key:ah)(r0:Int):Mo (Bool):=
 .aV 6002 (r0 != 0) [2,3,5,13] 2 (r0 != 2)
def alH(p_doc:ah)(p_key:ah):Mo (Int):=
 .cl (afV p_doc) fun r0 _=>
 .jk Tryz.f78 0 [1,0,1,0] 11 (fun r_=>⟨[(2,.ptr 0 0),(3,.ptr 1 0),(5,.i_ r0),(13,.b_ r_)],[bG p_doc,bG p_key]⟩) ⟨[(2,.ptr 0 0),(3,.ptr 1 0),(5,.i_ r0)],[bG p_doc,bG p_key]⟩ (QX p_doc p_key r0) fun r1=>
 .iB (r1) (.ret (aY 1) (r0))<|
 .ask (fQ p_doc.bC 0) fun x0 h0=>
 .say [] (ok1 (bU aN.aX h0))<|
 .ask (Q13 x0.fValue p_key) fun r2 h1=>
 .say [.gY (.q 0 (.q 1 (.q 2 (.q 3 (.q 4 (.q 5 (.l 6 (.q 7 .fin)))))))) (some 6) [] [.row (aN.lf1 x0),.res (.i_ r2)] [2,22] 2 [(2,.ptr 0 0),(22,.lf (.bool (r2 != 0)))] [bG p_doc,bG p_key]] (okc (atZ _ _ _ h1) (ok1 (rf_ ⟨[(2,.ptr 0 0),(22,.lf (.bool (r2 != 0)))],[bG p_doc,bG p_key]⟩)))<|
 .iB (r2 != 0) (.ret (aY 1) (8))<|
 .cl (afV p_doc) fun r3 _=>
 .ret (aY 1) (r3)
def adD(p_doc:ah)(p_key:ah):Option (Int):=Mo.den (alH p_doc p_key)
theorem afX(p_doc:ah)(p_key:ah):FV (adD p_doc p_key) 78 [.dat (ah.lf1 p_doc),.dat (ah.lf1 p_key)] .i_:=cO Tryz.func78
def uJ(p_a:List ByteArray)(p_b:List ByteArray):(Int)→Mo ((Int)⊕(Unit⊕Unit)):=fun(v0)=>
 .nu p_a lfS<|
 .iB (decide ((v0:Int)<(p_a.length:Int))) (.say [.order [(true,0),(true,1),(true,2),(true,3),(true,4),(true,5),(true,6),(true,7),(true,8)] none []] ok0<|
 .gx lS_ p_a v0 fun x0 _=>
 .gx lS_ p_b v0 fun x1 _=>
 .iB (!decide ((x0:ByteArray)=(x1:ByteArray))) (.rt [4] 0 (.inr (.inl ())))<|
 .rt [0,1,5] 0 (.inl (IntKind.wrap .i64 (v0+1))))<|
 .rt [] 0 (.inr (.inr (())))
def adE(p_a:List ByteArray)(p_b:List ByteArray)(v0:Int):Option (Unit⊕Unit):=bQ (fun v_=>(uJ p_a p_b v_).den) FU (v0)
def aq5(p_a:List ByteArray)(p_b:List ByteArray):Mo (Bool):=
 .nu p_a lfS<|
 .nu p_b lfS<|
 .iB ((p_a.length:Int) != (p_b.length:Int)) (.ret (aY 1) (false))<|
 .l2 Tryz.f166 0 [1,1,0,1,0] 0 (fun(v0)=>⟨[(0,.lf (.rows 1 (p_a.map lfS))),(1,.lf (.rows 1 (p_b.map lfS))),(5,.i_ v0)],[]⟩) .ret (fun _=>⟨[(4,.b_ false)],[]⟩) (.exit 0) (fun _=>⟨[],[]⟩) (uJ p_a p_b) (0) (fun o0=>
 .ret (aY 1) (false)) fun o1=>
 .ret (aY 1) (true)
def Q99(p_a:List ByteArray)(p_b:List ByteArray):Option (Bool):=Mo.den (aq5 p_a p_b)
theorem at1(p_a:List ByteArray)(p_b:List ByteArray):FV (Q99 p_a p_b) 166 [.lf (.rows 1 (p_a.map lfS)),.lf (.rows 1 (p_b.map lfS))] .b_:=cO Tryz.func166
end
end Go.Proofs.YtbdcaeahocbkbaaGreatDoor
