/- Printed by dec.py. -/
import Derived.Test.YtbdcaeahocbkbaaGreatDoorQAAp6
set_option linter.unusedSimpArgs false
set_option linter.unusedVariables false
namespace Go.Proofs.YtbdcaeahocbkbaaGreatDoor
open Go.RowKit
set_option maxRecDepth 20000
set_option maxHeartbeats 4000000
noncomputable section
def Es(p_l:List bf)(v0:Int):(Int)→Mo ((Int)⊕(Unit⊕Unit)):=fun(v1)=>
 .iB (decide ((v1:Int)<v0)) (.say [.order [(true,0),(true,1),(true,2),(true,3),(true,4),(true,5),(true,6),(true,7),(true,8),(true,9),(false,10)] (some 10) []] ok0<|
 .gx bf.aX p_l v0 fun x0 _=>
 .gx bf.aX p_l v1 fun x1 _=>
 .cl (at1 x0.cZ x1.cZ) fun r0 _=>
 .iB (r0) (.rt [2] 0 (.inr (.inl ())))<|
 .rt [0,3,4] 0 (.inl (IntKind.wrap .i64 (v1+1))))<|
 .rt [0,3] 0 (.inr (.inr (())))
def adF(p_l:List bf)(v0:Int)(v1:Int):Option (Unit⊕Unit):=bQ (fun v_=>(Es p_l v0 v_).den) FU (v1)
def Et(p_l:List bf):(Int)→Mo ((Int)⊕(Int)⊕Unit):=fun(v0)=>
 .nu p_l bf.lf<|
 .iB (decide ((v0:Int)<(p_l.length:Int))) (.gx bf.aX p_l v0 fun x0 _=>
 .cl (DY x0.cZ) fun r0 _=>
 .iB (!r0) (.rt [2] 0 (.inr (.inl (10))))<|
 .l2m [] Tryz.f121 0 [1,1,0,1,0,0,1,0,0,1,1,0] 0 (fun(v1)=>⟨[(0,.lf (.rows 2 (p_l.map bf.lf))),(3,.i_ v0),(4,.i_ v1)],[]⟩) .ret (fun _=>⟨[(2,.i_ 12)],[]⟩) (.exit 2) (fun _=>⟨[(0,.lf (.rows 2 (p_l.map bf.lf))),(3,.i_ v0)],[]⟩) (adF p_l v0 0) (Es p_l v0) (0) (fun o0=>
 .rt [2] 0 (.inr (.inl (12)))) fun o1=>
 .rt [0,3] 0 (.inl (IntKind.wrap .i64 (v0+1))))<|
 .rt [] 0 (.inr (.inr (())))
def at6(p_l:List bf)(v0:Int):Option ((Int)⊕Unit):=bQ (fun v_=>(Et p_l v_).den) FU (v0)
def aq6(p_l:List bf):Mo (Int):=
 .nu p_l bf.lf<|
 .iB (decide ((8:Int)<(p_l.length:Int))) (.ret (aY 1) (2))<|
 .l2 Tryz.f121 0 [1,1,0,1,0] 0 (fun(v0)=>⟨[(0,.lf (.rows 2 (p_l.map bf.lf))),(3,.i_ v0)],[]⟩) .ret (fun o_=>⟨[(2,.i_ o_)],[]⟩) (.exit 0) (fun _=>⟨[],[]⟩) (Et p_l) (0) (fun o0=>
 .ret (aY 1) (o0)) fun o1=>
 .ret (aY 1) (0)
def Q60(p_l:List bf):Option (Int):=Mo.den (aq6 p_l)
theorem at7(p_l:List bf):FV (Q60 p_l) 121 [.lf (.rows 2 (p_l.map bf.lf))] .i_:=cO Tryz.func121
abbrev Wx(m:aP→Int→Int→Option (Int)):Prop:=∀p_p p_levels p_left,FV (m p_p p_levels p_left) 167 [.dat (aP.lf1 p_p),.i_ p_levels,.i_ p_left] .i_
structure adG where
 m1:(p_p:aP)→(p_levels:Int)→(p_left:Int)→Option (Int)
 ok1:Wx m1
def ZB(R_:adG)(p_left:Int)(p_levels:Int)(p_p:aP):Mo (Bool):=
 .oV 4002 (p_levels==0) [1,2,3,13] 1 (decide ((p_left:Int)≤0))
def Eu(R_:adG)(p_levels:Int)(p_p:aP)(v0:Int)(v1:Int):Mo (Bool):=
 .nu p_p.bJ aP.lf<|
 .aV 12005 (decide ((v1:Int)<(p_p.bJ.length:Int))) [1,2,3,7,24] 1 (decide ((0:Int)≤v0))
def uK(R_:adG)(p_levels:Int)(p_p:aP):(Int×Int)→Mo ((Int×Int)⊕(Int)):=fun(v0,v1)=>
 .jk Tryz.f167 0 [1,1,1,0,1,0,0,0,0] 17 (fun r_=>⟨[(1,.i_ p_levels),(2,.i_ v0),(3,.ptr 0 0),(7,.i_ v1),(24,.b_ r_)],[dB p_p]⟩) ⟨[(1,.i_ p_levels),(2,.i_ v0),(3,.ptr 0 0),(7,.i_ v1)],[dB p_p]⟩ (Eu R_ p_levels p_p v0 v1) fun r0=>
 .iB (r0) (.gx aP.aX p_p.bJ v1 fun x0 _=>
 .cl (R_.ok1 x0 (IntKind.wrap .i64 (p_levels-1)) v0) fun r1 _=>
 .rt [1,2,3,7] 1 (.inl (r1,IntKind.wrap .i64 (v1+1))))<|
 .ret ⟨[.kill 0],[2],[],1⟩ (.inr (v0))
def apM(R_:adG)(p_levels:Int)(p_p:aP)(v0:Int)(v1:Int):Option (Int):=bQ (fun v_=>(uK R_ p_levels p_p v_).den) FU (v0,v1)
def afY(R_:adG)(p_p:aP)(p_levels:Int)(p_left:Int):Mo (Int):=
 .jk Tryz.f167 0 [1,0,0] 9 (fun r_=>⟨[(1,.i_ p_levels),(2,.i_ p_left),(3,.ptr 0 0),(13,.b_ r_)],[dB p_p]⟩) ⟨[(1,.i_ p_levels),(2,.i_ p_left),(3,.ptr 0 0)],[dB p_p]⟩ (ZB R_ p_left p_levels p_p) fun r0=>
 .iB (r0) (.ret (aY 1) ((-1)))<|
 .l1 Tryz.f167 0 [1,1,1,0,1,0] 0 (.exit 0) (fun(v0,v1)=>⟨[(1,.i_ p_levels),(2,.i_ v0),(3,.ptr 0 0),(7,.i_ v1)],[dB p_p]⟩) (fun r_=>⟨[(2,.i_ r_)],[.dead]⟩) (uK R_ p_levels p_p) ((IntKind.wrap .i64 (p_left-1)),0) fun r1=>
 .ret (aY 1) (r1)
theorem apN(R_:adG):Wx fun p_p p_levels p_left=>Mo.den (afY R_ p_p p_levels p_left):=fun _ _ _=>cO Tryz.func167
def Hf:Nat→adG
 |0=>{ m1:=fun p_p p_levels p_left=>none,ok1:=fun _ _ _ _ h=>(by cases h) }
 |n_+1=>{ m1:=fun p_p p_levels p_left=>Mo.den (afY (Hf n_) p_p p_levels p_left),ok1:=apN (Hf n_) }
def Q46(p_p:aP)(p_levels:Int)(p_left:Int):Option (Int):=(Hf FU).m1 p_p p_levels p_left
theorem aua:Wx Q46:=(Hf FU).ok1
def QY(p_p:aP):Mo (Bool):=
 .iB (p_p.fOp==15) (.rt [1,4,5] 1 (p_p.fOp==15))<|
 .rt [1,4,5] 1 (p_p.fOp==23)
def QZ(p_p:aP):Mo (Bool):=
 .iB (p_p.fOp==20) (.rt [1,12] 1 (p_p.fOp==20))<|
 .iB (p_p.fOp==21) (.rt [1,12] 1 (p_p.fOp==21))<|
 .rt [1,12] 1 (p_p.fOp==22)
def alI(p_p:aP):Mo (Bool):=
 .jk Tryz.f206 0 [1,0,1,0,0,1] 1 (fun r_=>⟨[(1,.ptr 0 0),(4,.i_ p_p.fOp),(5,.b_ r_)],[dB p_p]⟩) ⟨[(1,.ptr 0 0),(4,.i_ p_p.fOp),(5,.lf (.bool (p_p.fOp==15)))],[dB p_p]⟩ (QY p_p) fun r0=>
 .iB (r0) (.nu p_p.bJ aP.lf<|
 .ret (aY 1) ((p_p.bJ.length:Int)==1))<|
 .jk Tryz.f206 0 [1,0,1,0,1,1,0,1] 1 (fun r_=>⟨[(1,.ptr 0 0),(12,.b_ r_)],[dB p_p]⟩) ⟨[(1,.ptr 0 0),(4,.i_ p_p.fOp),(12,.lf (.bool (p_p.fOp==20)))],[dB p_p]⟩ (QZ p_p) fun r1=>
 .iB (r1) (.nu p_p.bJ aP.lf<|
 .ret (aY 1) (decide ((0:Int)<(p_p.bJ.length:Int))))<|
 .nu p_p.bJ aP.lf<|
 .ret (aY 1) ((p_p.bJ.length:Int)==0)
def aub(p_p:aP):Option (Bool):=Mo.den (alI p_p)
theorem apO(p_p:aP):FV (aub p_p) 206 [.dat (aP.lf1 p_p)] .b_:=cO Tryz.func206
theorem Wy(p_op:Int):FV (KQ p_op) 207 [.i_ p_op] .b_:=cO Tryz.func207
def alJ(p_p:aP):Mo (Bool):=
 .iB (p_p.fOp==10) (.jk Tryz.f208 0 [1,0,1,0,1,0,0] 13 (fun r_=>⟨[(2,.b_ r_)],[.dead]⟩) ⟨[(1,.ptr 0 0)],[dB p_p]⟩ (DR p_p) fun r0=>
 .ret (aY 1) (r0))<|
 .iB (p_p.fOp==11) (.jk Tryz.f208 0 [1,0,1,0,1,1,1,0,0] 17 (fun r_=>⟨[(2,.b_ r_)],[.dead]⟩) ⟨[(1,.ptr 0 0)],[dB p_p]⟩ (DT p_p) fun r1=>
 .ret (aY 1) (r1))<|
 .iB (p_p.fOp==12) (.sf Tryz.f208 0 [1,0,1,0,1,1,1,1,1,0,0] 0 8 7 [(1,.ptr 0 0),(2,.b_ false)] [dB p_p] 34 (zW p_p) fun r2=>
 .sk Tryz.f208 0 [1,0,1,0,1,1,1,1,1,0,0] 8 7 7 (fun r_=>⟨[(2,.b_ false),(41,.b_ r_)],[.dead]⟩) ⟨[(1,.ptr 0 0),(2,.b_ false),(34,.b_ r2)],[dB p_p]⟩ (zX p_p r2) fun r3=>
 .sk Tryz.f208 0 [1,0,1,0,1,1,1,1,1,0,0] 15 1 7 (fun r_=>⟨[(2,.b_ r3)],[.dead]⟩) ⟨[(2,.b_ false),(41,.b_ r3)],[.dead]⟩ (dG r3) fun r4=>
 .ret (aY 1) (r3))<|
 .iB (p_p.fOp==13) (.ret (aY 1) (decide ((0:Int)≤p_p.fN)))<|
 .ret (aY 1) (true)
def auc(p_p:aP):Option (Bool):=Mo.den (alJ p_p)
theorem apP(p_p:aP):FV (auc p_p) 208 [.dat (aP.lf1 p_p)] .b_:=cO Tryz.func208
theorem afZ(p_op:Int):FV (N8 p_op) 209 [.i_ p_op] .b_:=cO Tryz.func209
theorem WA(p_op:Int):FV (YQ p_op) 211 [.i_ p_op] .b_:=cO Tryz.func211
def alK(p_op:Int):Mo (Bool):=
 .iG 4002 (decide ((2:Int)≤p_op)) (.iG 4006 (decide ((p_op:Int)≤7)) (.ret (aY 1) (true))<|
 .cl (WA p_op) fun r0 _=>
 .ret (aY 1) (r0))<|
 .cl (WA p_op) fun r1 _=>
 .ret (aY 1) (r1)
def aud(p_op:Int):Option (Bool):=Mo.den (alK p_op)
theorem af0(p_op:Int):FV (aud p_op) 210 [.i_ p_op] .b_:=cO Tryz.func210
theorem WB(p_n:Int):FV (Vy p_n) 259 [.i_ p_n] .b_:=cO Tryz.func259
def alL(p_p:dO):Mo (Bool):=
 .cl (WB p_p.fX) fun r0 _=>
 .iG 4003 (r0) (.cl (WB p_p.fY) fun r1 _=>
 .ret (aY 1) (r1))<|
 .ret (aY 1) (false)
def aue(p_p:dO):Option (Bool):=Mo.den (alL p_p)
theorem apQ(p_p:dO):FV (aue p_p) 258 [.dat (dO.lf1 p_p)] .b_:=cO Tryz.func258
def Ew(p_s:dP):(Int)→Mo ((Int)⊕(Unit⊕Unit)):=fun(v0)=>
 .iB (decide ((v0:Int)<(p_s.bK.length:Int))) (.gx dO.aX p_s.bK v0 fun x0 _=>
 .cl (apQ x0) fun r0 _=>
 .iB (!r0) (.ret ⟨[.kill 0],[2],[],1⟩ (.inr (.inl ())))<|
 .rt [1,3,4] 1 (.inl (IntKind.wrap .i64 (v0+1))))<|
 .rt [1,3] 1 (.inr (.inr (())))
def adH(p_s:dP)(v0:Int):Option (Unit⊕Unit):=bQ (fun v_=>(Ew p_s v_).den) FU (v0)
def ZC(p_s:dP):Mo (Bool):=
 .aV 20003 (p_s.aK==1) [1,3,28] 1 ((p_s.bK.length:Int)==2)
def Rf(p_s:dP)(r0:Bool):Mo (Bool):=
 .aV 20007 (r0) [1,3,33] 1 (p_s.fR==0)
def Rh(p_s:dP)(r0:Bool):Mo (Bool):=
 .iG 20012 (r0) (.rt [1,3,47] 1 (true))<|
 .iG 20016 (p_s.aK==2) (.aC 20020 ((p_s.bK.length:Int)==1) [1,3,47] 1 (WB p_s.fR))<|
 .rt [1,3,47] 1 (false)
def Ri(p_s:dP)(r0:Bool):Mo (Bool):=
 .iG 20026 (r0) (.ret ⟨[.kill 0],[61],[],1⟩ (true))<|
 .iG 20030 (p_s.aK==3) (.iG 20034 (decide ((3:Int)≤(p_s.bK.length:Int))) (.ret ⟨[.kill 0],[61],[],1⟩ (p_s.fR==0))<|
 .ret ⟨[.kill 0],[61],[],1⟩ (false))<|
 .ret ⟨[.kill 0],[61],[],1⟩ (false)
def aq7(p_s:dP):Mo (Int):=
 .nu p_s.bK dO.lf<|
 .iB (decide ((64:Int)<(p_s.bK.length:Int))) (.ret (aY 1) (18))<|
 .l2m [] Tryz.f212 0 [1,1,1,0,1,0] 0 (fun(v0)=>⟨[(1,.ptr 0 0),(3,.i_ (p_s.bK.length:Int)),(4,.i_ v0)],[wR p_s]⟩) .ret (fun _=>⟨[(2,.i_ 18)],[.dead]⟩) (.exit 0) (fun _=>⟨[(1,.ptr 0 0),(3,.i_ (p_s.bK.length:Int))],[wR p_s]⟩) (adH p_s 0) (Ew p_s) (0) (fun o0=>
 .ret (aY 1) (18)) fun o1=>
 .sf Tryz.f212 0 [1,1,1,1,0,0] 0 7 9 [(1,.ptr 0 0),(3,.i_ (p_s.bK.length:Int))] [wR p_s] 28 (ZC p_s) fun r0=>
 .sb Tryz.f212 0 [1,1,1,1,0,0] 7 5 9 [(1,.ptr 0 0),(3,.i_ (p_s.bK.length:Int))] [wR p_s] 28 33 r0 (Rf p_s r0) fun r1=>
 .sb Tryz.f212 0 [1,1,1,1,0,0] 12 14 9 [(1,.ptr 0 0),(3,.i_ (p_s.bK.length:Int))] [wR p_s] 33 47 r1 (Rh p_s r1) fun r2=>
 .sk Tryz.f212 0 [1,1,1,1,0,0] 26 14 9 (fun r_=>⟨[(61,.b_ r_)],[.dead]⟩) ⟨[(1,.ptr 0 0),(3,.i_ (p_s.bK.length:Int)),(47,.b_ r2)],[wR p_s]⟩ (Ri p_s r2) fun r3=>
 .iB (r3) (.ret (aY 1) (0))<|
 .ret (aY 1) (18)
def Q43(p_s:dP):Option (Int):=Mo.den (aq7 p_s)
theorem auf(p_s:dP):FV (Q43 p_s) 212 [.dat (dP.lf1 p_s)] .i_:=cO Tryz.func212
def Rj(p_s:dP):Mo (Bool):=
 .iG 4003 (p_s.aK==0) (.nu p_s.bK dO.lf<|
 .rt [1,2,11] 1 ((p_s.bK.length:Int)==0))<|
 .rt [1,2,11] 1 (false)
def Rk(p_s:dP)(r0:Bool):Mo (Bool):=
 .iG 4009 (r0) (.ret ⟨[.kill 0],[2,16],[],1⟩ (p_s.fR==0))<|
 .ret ⟨[.kill 0],[2,16],[],1⟩ (false)
def alM(p_s:dP):Mo (Bool):=
 .sf Tryz.f260 0 [1,0] 0 9 1 [(1,.ptr 0 0),(2,.b_ false)] [wR p_s] 11 (Rj p_s) fun r0=>
 .sk Tryz.f260 0 [1,0] 9 5 1 (fun r_=>⟨[(2,.b_ false),(16,.b_ r_)],[.dead]⟩) ⟨[(1,.ptr 0 0),(2,.b_ false),(11,.b_ r0)],[wR p_s]⟩ (Rk p_s r0) fun r1=>
 .sk Tryz.f260 0 [1,0] 14 1 1 (fun r_=>⟨[(2,.b_ r1)],[.dead]⟩) ⟨[(2,.b_ false),(16,.b_ r1)],[.dead]⟩ (dG r1) fun r2=>
 .ret (aY 1) (r1)
def avF(p_s:dP):Option (Bool):=Mo.den (alM p_s)
theorem apR(p_s:dP):FV (avF p_s) 260 [.dat (dP.lf1 p_s)] .b_:=cO Tryz.func260
def MG(p_e:aT)(r0:Bool):Mo (Bool):=
 .aC 4020 (r0) [1,2,27] 1 (vU p_e.fArg)
def alN(p_e:aT):Mo (Bool):=
 .sf Tryz.f261 0 [1,0] 0 9 1 [(1,.ptr 0 0),(2,.b_ false)] [dJ p_e] 11 (oG p_e) fun r0=>
 .sb Tryz.f261 0 [1,0] 9 5 1 [(1,.ptr 0 0),(2,.b_ false)] [dJ p_e] 11 16 r0 (oH p_e r0) fun r1=>
 .sb Tryz.f261 0 [1,0] 14 6 1 [(1,.ptr 0 0),(2,.b_ false)] [dJ p_e] 16 22 r1 (mP p_e r1) fun r2=>
 .sb Tryz.f261 0 [1,0] 20 5 1 [(1,.ptr 0 0),(2,.b_ false)] [dJ p_e] 22 27 r2 (MG p_e r2) fun r3=>
 .sb Tryz.f261 0 [1,0] 25 5 1 [(1,.ptr 0 0),(2,.b_ false)] [dJ p_e] 27 32 r3 (mQ p_e r3) fun r4=>
 .sk Tryz.f261 0 [1,0] 30 6 1 (fun r_=>⟨[(2,.b_ false),(38,.b_ r_)],[.dead]⟩) ⟨[(1,.ptr 0 0),(2,.b_ false),(32,.b_ r4)],[dJ p_e]⟩ (mV p_e r4) fun r5=>
 .sk Tryz.f261 0 [1,0] 36 1 1 (fun r_=>⟨[(2,.b_ r5)],[.dead]⟩) ⟨[(2,.b_ false),(38,.b_ r5)],[.dead]⟩ (dG r5) fun r6=>
 .ret (aY 1) (r5)
def aug(p_e:aT):Option (Bool):=Mo.den (alN p_e)
theorem apS(p_e:aT):FV (aug p_e) 261 [.dat (aT.lf1 p_e)] .b_:=cO Tryz.func261
def ZE(p_p:aP):Mo (Bool):=
 .cl (afZ p_p.fOp) fun r0 _=>
 .iG 4004 (!r0) (.nu p_p.cZ lfS<|
 .rt [1,12] 1 (decide ((0:Int)<(p_p.cZ.length:Int))))<|
 .rt [1,12] 1 (false)
def ZF(p_p:aP)(r0:Bool):Mo (Bool):=
 .iG 4010 (r0) (.rt [1,24] 1 (true))<|
 .cl (af0 p_p.fOp) fun r1 _=>
 .iG 4015 (!r1) (.cl (vU p_p.fArg) fun r2 _=>
 .rt [1,24] 1 (!r2))<|
 .rt [1,24] 1 (false)
def Rl(p_p:aP)(r0:Bool):Mo (Bool):=
 .iG 4022 (r0) (.rt [1,36] 1 (true))<|
 .cl (Wy p_p.fOp) fun r1 _=>
 .iG 4027 (!r1) (.nu p_p.fArgs ah.lf<|
 .rt [1,36] 1 (decide ((0:Int)<(p_p.fArgs.length:Int))))<|
 .rt [1,36] 1 (false)
def Rn(p_p:aP):Mo (Bool):=
 .aV 8003 (p_p.fOp != 10) [1,44] 1 (p_p.fOp != 11)
def Ro(p_p:aP)(r0:Bool):Mo (Bool):=
 .aV 8008 (r0) [1,49] 1 (p_p.fOp != 12)
def Rq(p_p:aP)(r0:Bool):Mo (Bool):=
 .aV 8013 (r0) [1,54] 1 (p_p.fOp != 13)
def Rt(p_p:aP)(r0:Bool):Mo (Bool):=
 .aV 8018 (r0) [1,59] 1 (p_p.fN != 0)
def Ru(p_p:aP)(r0:Bool):Mo (Bool):=
 .iG 8023 (r0) (.rt [1,69] 1 (true))<|
 .aV 8027 (p_p.fOp != 12) [1,69] 1 (p_p.fM != 0)
def Rw(p_p:aP):Mo (Bool):=
 .iG 12003 (p_p.fOp==18) (.rt [1,77] 1 (true))<|
 .cl (apR p_p.eF) fun r0 _=>
 .rt [1,77] 1 (r0)
def Rx(p_p:aP)(r0:Bool):Mo (Bool):=
 .iG 12008 (r0) (.iG 12012 (p_p.fOp==24) (.ret ⟨[.kill 0],[87],[],1⟩ (true))<|
 .cl (apS p_p.fExpr) fun r1 _=>
 .ret ⟨[.kill 0],[87],[],1⟩ (r1))<|
 .ret ⟨[.kill 0],[87],[],1⟩ (false)
def aq8(p_p:aP):Mo (Bool):=
 .sf Tryz.f213 0 [1,0,0] 0 10 1 [(1,.ptr 0 0)] [dB p_p] 12 (ZE p_p) fun r0=>
 .sb Tryz.f213 0 [1,0,0] 10 12 1 [(1,.ptr 0 0)] [dB p_p] 12 24 r0 (ZF p_p r0) fun r1=>
 .sb Tryz.f213 0 [1,0,0] 22 12 1 [(1,.ptr 0 0)] [dB p_p] 24 36 r1 (Rl p_p r1) fun r2=>
 .iB (r2) (.ret (aY 1) (false))<|
 .sf Tryz.f213 0 [1,1,0,0] 0 8 3 [(1,.ptr 0 0)] [dB p_p] 44 (Rn p_p) fun r3=>
 .sb Tryz.f213 0 [1,1,0,0] 8 5 3 [(1,.ptr 0 0)] [dB p_p] 44 49 r3 (Ro p_p r3) fun r4=>
 .sb Tryz.f213 0 [1,1,0,0] 13 5 3 [(1,.ptr 0 0)] [dB p_p] 49 54 r4 (Rq p_p r4) fun r5=>
 .sb Tryz.f213 0 [1,1,0,0] 18 5 3 [(1,.ptr 0 0)] [dB p_p] 54 59 r5 (Rt p_p r5) fun r6=>
 .sb Tryz.f213 0 [1,1,0,0] 23 10 3 [(1,.ptr 0 0)] [dB p_p] 59 69 r6 (Ru p_p r6) fun r7=>
 .iB (r7) (.ret (aY 1) (false))<|
 .sf Tryz.f213 0 [1,1,1,0] 0 8 5 [(1,.ptr 0 0)] [dB p_p] 77 (Rw p_p) fun r8=>
 .sk Tryz.f213 0 [1,1,1,0] 8 10 5 (fun r_=>⟨[(87,.b_ r_)],[.dead]⟩) ⟨[(1,.ptr 0 0),(77,.b_ r8)],[dB p_p]⟩ (Rx p_p r8) fun r9=>
 .sk Tryz.f213 0 [1,1,1,0] 18 1 5 (fun r_=>⟨[(2,.b_ r9)],[.dead]⟩) ⟨[(87,.b_ r9)],[.dead]⟩ (dG r9) fun r10=>
 .ret (aY 1) (r9)
def Q27(p_p:aP):Option (Bool):=Mo.den (aq8 p_p)
theorem auh(p_p:aP):FV (Q27 p_p) 213 [.dat (aP.lf1 p_p)] .b_:=cO Tryz.func213
def MH(p_op:Int):Mo (Bool):=
 .iB (p_op==19) (.rt [3,17] 0 (p_op==19))<|
 .rt [3,17] 0 (p_op==25)
def MI(p_op:Int):Mo (Bool):=
 .iB (p_op==4) (.rt [20] 0 (p_op==4))<|
 .iB (p_op==6) (.rt [20] 0 (p_op==6))<|
 .iB (p_op==16) (.rt [20] 0 (p_op==16))<|
 .iB (p_op==17) (.rt [20] 0 (p_op==17))<|
 .iB (p_op==21) (.rt [20] 0 (p_op==21))<|
 .iB (p_op==29) (.rt [20] 0 (p_op==29))<|
 .iB (p_op==37) (.rt [20] 0 (p_op==37))<|
 .iB (p_op==35) (.rt [20] 0 (p_op==35))<|
 .rt [20] 0 (p_op==34)
def alO(p_op:Int):Mo (Int):=
 .jk Tryz.f288 0 [1,0,1,0,0,1] 1 (fun r_=>⟨[(3,.i_ p_op),(4,.b_ r_)],[]⟩) ⟨[(3,.i_ p_op),(4,.lf (.bool (p_op==1)))],[]⟩ (DU p_op) fun r0=>
 .iB (r0) (.ret (aY 1) (0))<|
 .jk Tryz.f288 0 [1,0,1,0,1,1,0,1] 1 (fun r_=>⟨[(3,.i_ p_op),(8,.b_ r_)],[]⟩) ⟨[(3,.i_ p_op),(8,.lf (.bool (p_op==18)))],[]⟩ (DV p_op) fun r1=>
 .iB (r1) (.ret (aY 1) (1))<|
 .jk Tryz.f288 0 [1,0,1,0,1,1,1,1,0,1] 1 (fun r_=>⟨[(3,.i_ p_op),(17,.b_ r_)],[]⟩) ⟨[(3,.i_ p_op),(17,.lf (.bool (p_op==19)))],[]⟩ (MH p_op) fun r2=>
 .iB (r2) (.ret (aY 1) (3))<|
 .jk Tryz.f288 0 [1,0,1,0,1,1,1,1,1,1,0,1] 1 (fun r_=>⟨[(20,.b_ r_)],[]⟩) ⟨[(3,.i_ p_op),(20,.lf (.bool (p_op==4)))],[]⟩ (MI p_op) fun r3=>
 .iB (r3) (.ret (aY 1) ((-1)))<|
 .ret (aY 1) (2)
def avG(p_op:Int):Option (Int):=Mo.den (alO p_op)
theorem af2(p_op:Int):FV (avG p_op) 288 [.i_ p_op] .i_:=cO Tryz.func288
def ru(p_l:List ByteArray)(v0:Int):(Int)→Mo ((Int)⊕(Unit⊕Unit)):=fun(v1)=>
 .iB (decide ((v1:Int)<v0)) (.say [.order [(true,0),(true,1),(true,2),(true,3),(true,4),(true,5),(true,6),(true,7),(true,8)] none []] ok0<|
 .gx lS_ p_l v1 fun x0 _=>
 .gx lS_ p_l v0 fun x1 _=>
 .iB (decide ((x0:ByteArray)=(x1:ByteArray))) (.rt [2] 0 (.inr (.inl ())))<|
 .rt [0,3,4] 0 (.inl (IntKind.wrap .i64 (v1+1))))<|
 .rt [0,3] 0 (.inr (.inr (())))
def Hg(p_l:List ByteArray)(v0:Int)(v1:Int):Option (Unit⊕Unit):=bQ (fun v_=>(ru p_l v0 v_).den) FU (v1)
def Ey(p_l:List ByteArray):(Int)→Mo ((Int)⊕(Unit⊕Unit)):=fun(v0)=>
 .nu p_l lfS<|
 .iB (decide ((v0:Int)<(p_l.length:Int))) (.gx lS_ p_l v0 fun x0 _=>
 .cl (Cc x0) fun r0 _=>
 .iB (!r0) (.rt [2] 0 (.inr (.inl ())))<|
 .l2m [] Tryz.f289 0 [1,0,1,0,0,1,0,0,1,1,0] 0 (fun(v1)=>⟨[(0,.lf (.rows 1 (p_l.map lfS))),(3,.i_ v0),(4,.i_ v1)],[]⟩) .ret (fun _=>⟨[(2,.b_ false)],[]⟩) (.exit 2) (fun _=>⟨[(0,.lf (.rows 1 (p_l.map lfS))),(3,.i_ v0)],[]⟩) (Hg p_l v0 0) (ru p_l v0) (0) (fun o0=>
 .rt [2] 0 (.inr (.inl ()))) fun o1=>
 .rt [0,3] 0 (.inl (IntKind.wrap .i64 (v0+1))))<|
 .rt [] 0 (.inr (.inr (())))
def aui(p_l:List ByteArray)(v0:Int):Option (Unit⊕Unit):=bQ (fun v_=>(Ey p_l v_).den) FU (v0)
def aq9(p_l:List ByteArray):Mo (Bool):=
 .l2 Tryz.f289 0 [1,0,1,0] 0 (fun(v0)=>⟨[(0,.lf (.rows 1 (p_l.map lfS))),(3,.i_ v0)],[]⟩) .ret (fun _=>⟨[(2,.b_ false)],[]⟩) (.exit 0) (fun _=>⟨[],[]⟩) (Ey p_l) (0) (fun o0=>
 .ret (aY 1) (false)) fun o1=>
 .ret (aY 1) (true)
def Q42(p_l:List ByteArray):Option (Bool):=Mo.den (aq9 p_l)
theorem auj(p_l:List ByteArray):FV (Q42 p_l) 289 [.lf (.rows 1 (p_l.map lfS))] .b_:=cO Tryz.func289
abbrev WC(m:ah→ah→Option (Bool)):Prop:=∀p_a p_b,FV (m p_a p_b) 169 [.dat (ah.lf1 p_a),.dat (ah.lf1 p_b)] .b_
structure IL where
 m1:(p_a:ah)→(p_b:ah)→Option (Bool)
 ok1:WC m1
def ZG(R_:IL)(p_a:ah)(p_b:ah):Mo (Bool):=
 .oV 4005 (p_a.aK != p_b.aK) [2,3,18] 2 (p_a.je != p_b.je)
def ZH(R_:IL)(p_a:ah)(p_b:ah)(r0:Bool):Mo (Bool):=
 .oV 4012 (r0) [2,3,25] 2 (!decide ((p_a.fText:ByteArray)=(p_b.fText:ByteArray)))
def Ry(R_:IL)(p_a:ah)(p_b:ah)(r0:Bool):Mo (Bool):=
 .iG 4019 (r0) (.rt [2,3,34] 2 (true))<|
 .nu p_a.bF ah.lf<|
 .nu p_b.bF ah.lf<|
 .rt [2,3,34] 2 ((p_a.bF.length:Int) != (p_b.bF.length:Int))
def Rz(R_:IL)(p_a:ah)(p_b:ah)(r0:Bool):Mo (Bool):=
 .iG 4028 (r0) (.rt [2,3,43] 2 (true))<|
 .nu p_a.bC aN.lf<|
 .nu p_b.bC aN.lf<|
 .rt [2,3,43] 2 ((p_a.bC.length:Int) != (p_b.bC.length:Int))
def Ho(R_:IL)(p_a:ah)(p_b:ah):(Int)→Mo ((Int)⊕(Unit⊕Unit)):=fun(v0)=>
 .nu p_a.bF ah.lf<|
 .iB (decide ((v0:Int)<(p_a.bF.length:Int))) (.ask (fQ p_a.bF v0) fun x0 h0=>
 .say [] (ok1 (bU ah.aX h0))<|
 .ask (fQ p_b.bF v0) fun x1 h1=>
 .say [] (ok1 (bU ah.aX h1))<|
 .ask (R_.m1 x0 x1) fun r0 h2=>
 .say [.gY (.q 0 (.q 1 (.q 2 (.q 3 (.q 4 (.q 5 (.q 6 (.q 7 (.q 8 (.q 9 (.l 10 (.q 11 .fin)))))))))))) (some 10) [] [.row (ah.lf1 x0),.row (ah.lf1 x1),.res (.b_ r0)] [2,3,5,62] 2 [(2,.ptr 0 0),(3,.ptr 1 0),(5,.i_ v0),(62,.lf (.bool (!r0)))] [bG p_a,bG p_b]] (okc (R_.ok1 _ _ _ h2) (ok1 (rf_ ⟨[(2,.ptr 0 0),(3,.ptr 1 0),(5,.i_ v0),(62,.lf (.bool (!r0)))],[bG p_a,bG p_b]⟩)))<|
 .iB (!r0) (.ret ⟨[.kill 0,.kill 1],[4],[],2⟩ (.inr (.inl ())))<|
 .rt [2,3,5] 2 (.inl (IntKind.wrap .i64 (v0+1))))<|
 .rt [2,3] 2 (.inr (.inr (())))
def af4(R_:IL)(p_a:ah)(p_b:ah)(v0:Int):Option (Unit⊕Unit):=bQ (fun v_=>(Ho R_ p_a p_b v_).den) FU (v0)
theorem awv:NY (opsOf (Code.sub (bodyC Tryz.f169) [1,1,1,0,1,0,0,1,0,0,0])) [(true,0),(true,1),(true,2),(true,3),(true,4),(true,5),(true,6),(true,7),(true,8),(true,9),(true,10),(true,11),(true,12),(true,13),(true,14),(true,15),(true,16),(true,17),(true,18),(true,19),(true,20),(true,21),(true,22),(true,23),(true,24),(true,25),(false,26),(true,27),(true,28)] none=true:=by kernel_rfl
def ahz(R_:IL)(p_a:ah)(p_b:ah)(v0:Int):Mo (Bool):=
 .say [.sQ [(true,0),(true,1),(true,2),(true,3),(true,4),(true,5),(true,6),(true,7),(true,8),(true,9),(true,10),(true,11),(true,12),(true,13),(true,14),(true,15),(true,16),(true,17),(true,18),(true,19),(true,20),(true,21),(true,22),(true,23),(true,24),(true,25),(false,26),(true,27),(true,28)] none []] (ok1 awv)<|
 .gx aN.aX p_a.bC v0 fun x0 _=>
 .gx aN.aX p_b.bC v0 fun x1 _=>
 .iG 24013 (!decide ((x0.fName:ByteArray)=(x1.fName:ByteArray))) (.rt [2,3,6,98] 2 (true))<|
 .gx aN.aX p_a.bC v0 fun x2 _=>
 .gx aN.aX p_b.bC v0 fun x3 _=>
 .cl (R_.ok1 x2.fValue x3.fValue) fun r0 _=>
 .rt [2,3,6,98] 2 (!r0)
def Hq(R_:IL)(p_a:ah)(p_b:ah):(Int)→Mo ((Int)⊕(Unit⊕Unit)):=fun(v0)=>
 .nu p_a.bC aN.lf<|
 .iB (decide ((v0:Int)<(p_a.bC.length:Int))) (.jk Tryz.f169 0 [1,1,1,0,1,0,0,1,0,0,0] 29 (fun r_=>⟨[(2,.ptr 0 0),(3,.ptr 1 0),(6,.i_ v0),(98,.b_ r_)],[bG p_a,bG p_b]⟩) ⟨[(2,.ptr 0 0),(3,.ptr 1 0),(6,.i_ v0)],[bG p_a,bG p_b]⟩ (ahz R_ p_a p_b v0) fun r0=>
 .iB (r0) (.ret ⟨[.kill 0,.kill 1],[4],[],2⟩ (.inr (.inl ())))<|
 .rt [2,3,6] 2 (.inl (IntKind.wrap .i64 (v0+1))))<|
 .ret ⟨[.kill 0,.kill 1],[],[],2⟩ (.inr (.inr (())))
def af5(R_:IL)(p_a:ah)(p_b:ah)(v0:Int):Option (Unit⊕Unit):=bQ (fun v_=>(Hq R_ p_a p_b v_).den) FU (v0)
def af6(R_:IL)(p_a:ah)(p_b:ah):Mo (Bool):=
 .sf Tryz.f169 0 [1,0,0] 0 12 1 [(2,.ptr 0 0),(3,.ptr 1 0)] [bG p_a,bG p_b] 18 (ZG R_ p_a p_b) fun r0=>
 .sb Tryz.f169 0 [1,0,0] 12 7 1 [(2,.ptr 0 0),(3,.ptr 1 0)] [bG p_a,bG p_b] 18 25 r0 (ZH R_ p_a p_b r0) fun r1=>
 .sb Tryz.f169 0 [1,0,0] 19 9 1 [(2,.ptr 0 0),(3,.ptr 1 0)] [bG p_a,bG p_b] 25 34 r1 (Ry R_ p_a p_b r1) fun r2=>
 .sb Tryz.f169 0 [1,0,0] 28 9 1 [(2,.ptr 0 0),(3,.ptr 1 0)] [bG p_a,bG p_b] 34 43 r2 (Rz R_ p_a p_b r2) fun r3=>
 .iB (r3) (.ret (aY 1) (false))<|
 .l2m [] Tryz.f169 0 [1,1,0,1,0] 0 (fun(v0)=>⟨[(2,.ptr 0 0),(3,.ptr 1 0),(5,.i_ v0)],[bG p_a,bG p_b]⟩) .ret (fun _=>⟨[(4,.b_ false)],[.dead,.dead]⟩) (.exit 0) (fun _=>⟨[(2,.ptr 0 0),(3,.ptr 1 0)],[bG p_a,bG p_b]⟩) (af4 R_ p_a p_b 0) (Ho R_ p_a p_b) (0) (fun o0=>
 .ret (aY 1) (false)) fun o1=>
 .l2m [] Tryz.f169 0 [1,1,1,0,1,0] 0 (fun(v1)=>⟨[(2,.ptr 0 0),(3,.ptr 1 0),(6,.i_ v1)],[bG p_a,bG p_b]⟩) .ret (fun _=>⟨[(4,.b_ false)],[.dead,.dead]⟩) (.exit 2) (fun _=>⟨[],[.dead,.dead]⟩) (af5 R_ p_a p_b 0) (Hq R_ p_a p_b) (0) (fun o2=>
 .ret (aY 1) (false)) fun o3=>
 .ret (aY 1) (true)
theorem apT(R_:IL):WC fun p_a p_b=>Mo.den (af6 R_ p_a p_b):=fun _ _=>cO Tryz.func169
def Cm:Nat→IL
 |0=>{ m1:=fun p_a p_b=>none,ok1:=fun _ _ _ h=>(by cases h) }
 |n_+1=>{ m1:=fun p_a p_b=>Mo.den (af6 (Cm n_) p_a p_b),ok1:=apT (Cm n_) }
def Q24(p_a:ah)(p_b:ah):Option (Bool):=(Cm FU).m1 p_a p_b
theorem WE:WC Q24:=(Cm FU).ok1
theorem aww:NY (opsOf (Code.sub (bodyC Tryz.f284) [1,0,0])) [(true,0),(true,1),(true,2),(true,3),(true,4),(true,5),(true,6),(true,7),(true,8),(true,9),(true,10),(false,11),(true,12),(true,13),(true,14),(true,15),(true,16),(true,17),(true,18),(false,19),(true,20),(true,21),(true,22),(true,23),(true,24),(true,25),(true,26),(true,27),(true,28),(true,29),(true,30),(true,31),(true,32),(true,33),(true,34),(true,35),(true,36),(true,37),(true,38),(true,39),(true,40),(true,41),(true,42)] none=true:=by kernel_rfl
def ZI(p_e:aT):Mo (Bool):=
 .say [.sQ [(true,0),(true,1),(true,2),(true,3),(true,4),(true,5),(true,6),(true,7),(true,8),(true,9),(true,10),(false,11),(true,12),(true,13),(true,14),(true,15),(true,16),(true,17),(true,18),(false,19),(true,20),(true,21),(true,22),(true,23),(true,24),(true,25),(true,26),(true,27),(true,28),(true,29),(true,30),(true,31),(true,32),(true,33),(true,34),(true,35),(true,36),(true,37),(true,38),(true,39),(true,40),(true,41),(true,42)] none []] (ok1 aww)<|
 .iG 4003 (decide ((p_e.fOp:Int)<1)) (.rt [1,46] 1 (true))<|
 .iG 4008 (decide ((37:Int)<p_e.fOp)) (.rt [1,46] 1 (true))<|
 .cl (af2 p_e.fOp) fun r0 _=>
 .iG 4013 (decide ((0:Int)≤r0)) (.nu p_e.bJ aT.lf<|
 .cl (af2 p_e.fOp) fun r1 _=>
 .iG 4023 ((p_e.bJ.length:Int) != r1) (.rt [1,46] 1 (true))<|
 .iG 4027 (p_e.fOp==34) (.nu p_e.bJ aT.lf<|
 .nu p_e.eH lfS<|
 .iG 4035 ((p_e.bJ.length:Int) != (p_e.eH.length:Int)) (.rt [1,46] 1 (true))<|
 .nu p_e.bJ aT.lf<|
 .rt [1,46] 1 ((p_e.bJ.length:Int)==0))<|
 .rt [1,46] 1 (false))<|
 .iG 4027 (p_e.fOp==34) (.nu p_e.bJ aT.lf<|
 .nu p_e.eH lfS<|
 .iG 4035 ((p_e.bJ.length:Int) != (p_e.eH.length:Int)) (.rt [1,46] 1 (true))<|
 .nu p_e.bJ aT.lf<|
 .rt [1,46] 1 ((p_e.bJ.length:Int)==0))<|
 .rt [1,46] 1 (false)
def ZJ(p_e:aT):Mo (Bool):=
 .iG 8003 (p_e.fOp==2) (.cl (DY p_e.cZ) fun r0 _=>
 .rt [1,55] 1 (!r0))<|
 .rt [1,55] 1 (false)
def RD(p_e:aT)(r0:Bool):Mo (Bool):=
 .iG 8009 (r0) (.rt [1,72] 1 (true))<|
 .iG 8013 (p_e.fOp==3) (.nu p_e.cZ lfS<|
 .iG 8019 (decide ((0:Int)<(p_e.cZ.length:Int))) (.cl (DY p_e.cZ) fun r1 _=>
 .rt [1,72] 1 (!r1))<|
 .rt [1,72] 1 (false))<|
 .rt [1,72] 1 (false)
def RF(p_e:aT):Mo (Bool):=
 .oV 12003 (p_e.fOp==3) [1,80] 1 (p_e.fOp==32)
def RG(p_e:aT)(r0:Bool):Mo (Bool):=
 .oV 12008 (r0) [1,85] 1 (p_e.fOp==33)
def RH(p_e:aT)(r0:Bool):Mo (Unit):=
 .rt [1,3] 1 ()
def RI(p_e:aT)(r0:Bool):Mo (Bool):=
 .iG 14001 (r0) (.cl (Cc p_e.fName) fun r1 _=>
 .rt [1,3,92] 1 (!r1))<|
 .rt [1,3,92] 1 (false)
def RJ(p_e:aT)(r0:Bool)(r1:Bool):Mo (Bool):=
 .iG 14007 (r1) (.rt [1,3,103] 1 (true))<|
 .iG 14011 (p_e.fOp==34) (.cl (auj p_e.eH) fun r2 _=>
 .rt [1,3,103] 1 (!r2))<|
 .rt [1,3,103] 1 (false)
def RN(p_e:aT)(r0:Bool):Mo (Bool):=
 .iG 18003 (p_e.fOp==1) (.cl (su p_e.fArg) fun r1 _=>
 .rt [1,3,112] 1 (!r1))<|
 .rt [1,3,112] 1 (false)
def RP(p_e:aT)(r0:Bool):Mo (Bool):=
 .aV 22003 (p_e.fOp != 2) [1,3,120] 1 (p_e.fOp != 3)
def RQ(p_e:aT)(r0:Bool)(r1:Bool):Mo (Bool):=
 .iG 22008 (r1) (.nu p_e.cZ lfS<|
 .rt [1,3,126] 1 (decide ((0:Int)<(p_e.cZ.length:Int))))<|
 .rt [1,3,126] 1 (false)
def RS(p_e:aT)(r0:Bool)(r1:Bool):Mo (Bool):=
 .iG 22014 (r1) (.rt [1,135] 1 (true))<|
 .aV 22017 (!r0) [1,135] 1 (!decide ((p_e.fName:ByteArray)=(⟨#[]⟩:ByteArray)))
def RU(p_e:aT)(r0:Bool):Mo (Bool):=
 .iG 22023 (r0) (.rt [1,146] 1 (true))<|
 .iG 22027 (p_e.fOp != 34) (.nu p_e.eH lfS<|
 .rt [1,146] 1 (decide ((0:Int)<(p_e.eH.length:Int))))<|
 .rt [1,146] 1 (false)
def RV(p_e:aT)(r0:Bool):Mo (Bool):=
 .iG 22034 (r0) (.rt [1,158] 1 (true))<|
 .iG 22038 (p_e.fOp != 1) (.cl (WE p_e.fArg (ah.mk 0 0 ⟨#[]⟩ [] [])) fun r1 _=>
 .rt [1,158] 1 (!r1))<|
 .rt [1,158] 1 (false)
def RX(p_e:aT)(r0:Bool):Mo (Bool):=
 .iG 22046 (r0) (.ret ⟨[.kill 0],[163],[],1⟩ (true))<|
 .ret ⟨[.kill 0],[163],[],1⟩ (p_e.fN != 0)
def ara(p_e:aT):Mo (Int):=
 .jk Tryz.f284 0 [1,0,0] 9 (fun r_=>⟨[(1,.ptr 0 0),(46,.b_ r_)],[dJ p_e]⟩) ⟨[(1,.ptr 0 0)],[dJ p_e]⟩ (ZI p_e) fun r0=>
 .iB (r0) (.ret (aY 1) (11))<|
 .sf Tryz.f284 0 [1,1,0,0] 0 9 3 [(1,.ptr 0 0)] [dJ p_e] 55 (ZJ p_e) fun r1=>
 .sb Tryz.f284 0 [1,1,0,0] 9 17 3 [(1,.ptr 0 0)] [dJ p_e] 55 72 r1 (RD p_e r1) fun r2=>
 .iB (r2) (.ret (aY 1) (10))<|
 .sf Tryz.f284 0 [1,1,1,0] 0 8 5 [(1,.ptr 0 0)] [dJ p_e] 80 (RF p_e) fun r3=>
 .sb Tryz.f284 0 [1,1,1,0] 8 5 5 [(1,.ptr 0 0)] [dJ p_e] 80 85 r3 (RG p_e r3) fun r4=>
 .sk Tryz.f284 0 [1,1,1,0] 13 1 5 (fun r_=>⟨[(1,.ptr 0 0),(3,.b_ r4)],[dJ p_e]⟩) ⟨[(1,.ptr 0 0),(85,.b_ r4)],[dJ p_e]⟩ (RH p_e r4) fun r5=>
 .sf Tryz.f284 0 [1,1,1,1,0,0] 0 7 6 [(1,.ptr 0 0),(3,.b_ r4)] [dJ p_e] 92 (RI p_e r4) fun r6=>
 .sb Tryz.f284 0 [1,1,1,1,0,0] 7 11 6 [(1,.ptr 0 0),(3,.b_ r4)] [dJ p_e] 92 103 r6 (RJ p_e r4 r6) fun r7=>
 .iB (r7) (.ret (aY 1) (9))<|
 .jk Tryz.f284 0 [1,1,1,1,1,0,0] 23 (fun r_=>⟨[(1,.ptr 0 0),(3,.b_ r4),(112,.b_ r_)],[dJ p_e]⟩) ⟨[(1,.ptr 0 0),(3,.b_ r4)],[dJ p_e]⟩ (RN p_e r4) fun r8=>
 .iB (r8) (.ret (aY 1) (8))<|
 .sf Tryz.f284 0 [1,1,1,1,1,1,0,0] 0 8 10 [(1,.ptr 0 0),(3,.b_ r4)] [dJ p_e] 120 (RP p_e r4) fun r9=>
 .sb Tryz.f284 0 [1,1,1,1,1,1,0,0] 8 6 10 [(1,.ptr 0 0),(3,.b_ r4)] [dJ p_e] 120 126 r9 (RQ p_e r4 r9) fun r10=>
 .sk Tryz.f284 0 [1,1,1,1,1,1,0,0] 14 9 10 (fun r_=>⟨[(1,.ptr 0 0),(135,.b_ r_)],[dJ p_e]⟩) ⟨[(1,.ptr 0 0),(3,.b_ r4),(126,.b_ r10)],[dJ p_e]⟩ (RS p_e r4 r10) fun r11=>
 .sb Tryz.f284 0 [1,1,1,1,1,1,0,0] 23 11 10 [(1,.ptr 0 0)] [dJ p_e] 135 146 r11 (RU p_e r11) fun r12=>
 .sb Tryz.f284 0 [1,1,1,1,1,1,0,0] 34 12 10 [(1,.ptr 0 0)] [dJ p_e] 146 158 r12 (RV p_e r12) fun r13=>
 .sk Tryz.f284 0 [1,1,1,1,1,1,0,0] 46 5 10 (fun r_=>⟨[(163,.b_ r_)],[.dead]⟩) ⟨[(1,.ptr 0 0),(158,.b_ r13)],[dJ p_e]⟩ (RX p_e r13) fun r14=>
 .iB (r14) (.ret (aY 1) (4))<|
 .ret (aY 1) (0)
def Q10(p_e:aT):Option (Int):=Mo.den (ara p_e)
theorem auk(p_e:aT):FV (Q10 p_e) 284 [.dat (aT.lf1 p_e)] .i_:=cO Tryz.func284
abbrev WG(m:aT→Int→Int→Option (Int×Int)):Prop:=∀p_e p_number p_level,FV (m p_e p_number p_level) 262 [.dat (aT.lf1 p_e),.i_ p_number,.i_ p_level] (fun r=>.tup [.i_ r.1,.i_ r.2])
structure ahA where
 m1:(p_e:aT)→(p_number:Int)→(p_level:Int)→Option (Int×Int)
 ok1:WG m1
def MJ(R_:ahA)(p_e:aT)(p_level:Int)(p_number:Int):Mo (Bool):=
 .oV 4002 (decide ((16:Int)<p_level)) [1,2,3,17] 1 (decide ((256:Int)<p_number))
def yJ(R_:ahA)(p_e:aT)(p_level:Int):(Int×Int)→Mo ((Int×Int)⊕(Int×Int)⊕(Int)):=fun(v0,v1)=>
 .nu p_e.bJ aT.lf<|
 .iB (decide ((v1:Int)<(p_e.bJ.length:Int))) (.gx aT.aX p_e.bJ v1 fun x0 _=>
 .cl (R_.ok1 x0 (IntKind.wrap .i64 (v0+1)) (IntKind.wrap .i64 (p_level+1))) fun r0 _=>
 .iB (r0.2 != 0) (.ret ⟨[.kill 0],[6,7],[],1⟩ (.inr (.inl (r0.1,r0.2))))<|
 .rt [1,2,3,9] 1 (.inl (r0.1,IntKind.wrap .i64 (v1+1))))<|
 .ret ⟨[.kill 0],[1],[],1⟩ (.inr (.inr (v0)))
def alP(R_:ahA)(p_e:aT)(p_level:Int)(v0:Int)(v1:Int):Option ((Int×Int)⊕(Int)):=bQ (fun v_=>(yJ R_ p_e p_level v_).den) FU (v0,v1)
def RY(R_:ahA)(p_e:aT)(p_number:Int)(p_level:Int):Mo (Int×Int):=
 .jk Tryz.f262 0 [1,0,0] 9 (fun r_=>⟨[(1,.i_ p_number),(2,.i_ p_level),(3,.ptr 0 0),(17,.b_ r_)],[dJ p_e]⟩) ⟨[(1,.i_ p_number),(2,.i_ p_level),(3,.ptr 0 0)],[dJ p_e]⟩ (MJ R_ p_e p_level p_number) fun r0=>
 .iB (r0) (.ret (aY 2) (p_number,2))<|
 .cl (auk p_e) fun r1 _=>
 .iB (r1 != 0) (.ret (aY 2) (p_number,r1))<|
 .l2m [] Tryz.f262 0 [1,1,1,0,1,0] 0 (fun(v0,v1)=>⟨[(1,.i_ v0),(2,.i_ p_level),(3,.ptr 0 0),(9,.i_ v1)],[dJ p_e]⟩) .ret (fun o_=>⟨[(6,.i_ o_.1),(7,.i_ o_.2)],[.dead]⟩) (.exit 0) (fun o_=>⟨[(1,.i_ o_)],[.dead]⟩) (alP R_ p_e p_level p_number 0) (yJ R_ p_e p_level) (p_number,0) (fun o0=>
 .ret (aY 2) (o0.1,o0.2)) fun o1=>
 .ret (aY 2) (o1,0)
theorem apU(R_:ahA):WG fun p_e p_number p_level=>Mo.den (RY R_ p_e p_number p_level):=fun _ _ _=>cO Tryz.func262
def vX:Nat→ahA
 |0=>{ m1:=fun p_e p_number p_level=>none,ok1:=fun _ _ _ _ h=>(by cases h) }
 |n_+1=>{ m1:=fun p_e p_number p_level=>Mo.den (RY (vX n_) p_e p_number p_level),ok1:=apU (vX n_) }
def Q49(p_e:aT)(p_number:Int)(p_level:Int):Option (Int×Int):=(vX FU).m1 p_e p_number p_level
theorem aul:WG Q49:=(vX FU).ok1
def alQ(p_e:aT):Mo (Int):=
 .cl (aul p_e 1 1) fun r0 _=>
 .ret (aY 1) (r0.2)
def aum(p_e:aT):Option (Int):=Mo.den (alQ p_e)
theorem apV(p_e:aT):FV (aum p_e) 214 [.dat (aT.lf1 p_e)] .i_:=cO Tryz.func214
abbrev WH(m:aP→Bool→Option (Int)):Prop:=∀p_p p_elem,FV (m p_p p_elem) 168 [.dat (aP.lf1 p_p),.b_ p_elem] .i_
structure uM where
 m1:(p_p:aP)→(p_elem:Bool)→Option (Int)
 ok1:WH m1
def af7(R_:uM)(p_elem:Bool)(p_p:aP):Mo (Bool):=
 .oV 4003 (decide ((p_p.fOp:Int)<1)) [1,2,16] 1 (decide ((24:Int)<p_p.fOp))
def af8(R_:uM)(p_elem:Bool)(p_p:aP)(r0:Bool):Mo (Bool):=
 .iG 4008 (r0) (.rt [1,2,21] 1 (true))<|
 .cl (apO p_p) fun r1 _=>
 .rt [1,2,21] 1 (!r1)
def ZK(R_:uM)(p_elem:Bool)(p_p:aP)(r0:Bool):Mo (Bool):=
 .iG 4013 (r0) (.rt [1,2,32] 1 (true))<|
 .cl (Wy p_p.fOp) fun r1 _=>
 .iG 4017 (r1) (.nu p_p.fArgs ah.lf<|
 .rt [1,2,32] 1 ((p_p.fArgs.length:Int)==0))<|
 .rt [1,2,32] 1 (false)
def ZL(R_:uM)(p_elem:Bool)(p_p:aP)(r0:Bool):Mo (Bool):=
 .iG 4024 (r0) (.rt [1,2,37] 1 (true))<|
 .cl (apP p_p) fun r1 _=>
 .rt [1,2,37] 1 (!r1)
def ZM(R_:uM)(p_elem:Bool)(p_p:aP):Mo (Bool):=
 .cl (afZ p_p.fOp) fun r0 _=>
 .iG 8003 (r0) (.cl (DY p_p.cZ) fun r1 _=>
 .rt [1,2,46] 1 (!r1))<|
 .rt [1,2,46] 1 (false)
def ZN(R_:uM)(p_elem:Bool)(p_p:aP)(r0:Bool):Mo (Bool):=
 .iG 8009 (r0) (.iG 8011 (p_elem) (.nu p_p.cZ lfS<|
 .rt [1,2,56] 1 (!((p_p.cZ.length:Int)==0)))<|
 .rt [1,2,56] 1 (true))<|
 .rt [1,2,56] 1 (false)
def ZO(R_:uM)(p_elem:Bool)(p_p:aP):Mo (Bool):=
 .cl (af0 p_p.fOp) fun r0 _=>
 .iG 12003 (r0) (.cl (su p_p.fArg) fun r1 _=>
 .iG 12008 (!r1) (.rt [1,2,76] 1 (true))<|
 .cl (WA p_p.fOp) fun r2 _=>
 .aV 12012 (r2) [1,2,76] 1 (p_p.fArg.aK != 4))<|
 .rt [1,2,76] 1 (false)
def Ez(R_:uM)(p_elem:Bool)(p_p:aP)(v0:Int):Mo (Bool):=
 .nu p_p.fArgs ah.lf<|
 .aC 18005 (decide ((v0:Int)<(p_p.fArgs.length:Int))) [1,2,5,86] 1 (Wy p_p.fOp)
def yK(R_:uM)(p_elem:Bool)(p_p:aP):(Int)→Mo ((Int)⊕(Unit⊕Unit)):=fun(v0)=>
 .jk Tryz.f168 0 [1,1,1,1,0,1,0,0,0,0] 23 (fun r_=>⟨[(1,.b_ p_elem),(2,.ptr 0 0),(5,.i_ v0),(86,.b_ r_)],[dB p_p]⟩) ⟨[(1,.b_ p_elem),(2,.ptr 0 0),(5,.i_ v0)],[dB p_p]⟩ (Ez R_ p_elem p_p v0) fun r0=>
 .iB (r0) (.gx ah.aX p_p.fArgs v0 fun x0 _=>
 .cl (su x0) fun r1 _=>
 .iB (!r1) (.ret ⟨[.kill 0],[4],[],1⟩ (.inr (.inl ())))<|
 .rt [1,2,5] 1 (.inl (IntKind.wrap .i64 (v0+1))))<|
 .rt [1,2] 1 (.inr (.inr (())))
def adI(R_:uM)(p_elem:Bool)(p_p:aP)(v0:Int):Option (Unit⊕Unit):=bQ (fun v_=>(yK R_ p_elem p_p v_).den) FU (v0)
def ZP(R_:uM)(p_elem:Bool)(p_p:aP):Mo ((Int)⊕Unit):=
 .iB (p_p.fOp==18) (.cl (auf p_p.eF) fun r0 _=>
 .iB (r0 != 0) (.ret ⟨[.kill 0],[4],[],1⟩ (.inl (r0)))<|
 .rt [1,2] 1 (.inr (())))<|
 .rt [1,2] 1 (.inr (()))
def ZQ(R_:uM)(p_elem:Bool)(p_p:aP)(v0:Int):Mo (Int):=
 .ask (fQ p_p.bJ v0) fun x0 h0=>
 .say [] (ok1 (bU aP.aX h0))<|
 .ite (p_elem) (fun c0=>
 .say [] (ok1 c0)<|
 .ask (R_.m1 x0 true) fun r0 h1=>
 .say [.gY (.q 0 (.q 1 (.q 2 (.q 3 (.q 4 (.q 5 (.q 6 (.q 7 (.q 8 (.q 9 (.q 10 (.l 11 (.q 12 .fin))))))))))))) (some 11) [] [.row (aP.lf1 x0),.gd 48006 true,.res (.i_ r0)] [1,2,7,8] 1 [(1,.b_ p_elem),(2,.ptr 0 0),(7,.i_ v0),(8,.i_ r0)] [dB p_p]] (okc (R_.ok1 _ _ _ h1) (ok1 (rf_ ⟨[(1,.b_ p_elem),(2,.ptr 0 0),(7,.i_ v0),(8,.i_ r0)],[dB p_p]⟩)))<|
 .rt [1,2,7,8] 1 (r0)) fun c0=>
 .say [] (ok1 c0)<|
 .ask (R_.m1 x0 (p_p.fOp==15)) fun r1 h2=>
 .say [.gY (.q 0 (.q 1 (.q 2 (.q 3 (.q 4 (.q 5 (.q 6 (.q 7 (.q 8 (.q 9 (.q 10 (.l 11 (.q 12 .fin))))))))))))) (some 11) [] [.row (aP.lf1 x0),.gd 48006 false,.res (.i_ r1)] [1,2,7,8] 1 [(1,.b_ p_elem),(2,.ptr 0 0),(7,.i_ v0),(8,.i_ r1)] [dB p_p]] (okc (R_.ok1 _ _ _ h2) (ok1 (rf_ ⟨[(1,.b_ p_elem),(2,.ptr 0 0),(7,.i_ v0),(8,.i_ r1)],[dB p_p]⟩)))<|
 .rt [1,2,7,8] 1 (r1)
def adJ(R_:uM)(p_elem:Bool)(p_p:aP)(v0:Int):Option (Int):=Mo.den (ZQ R_ p_elem p_p v0)
def yL(R_:uM)(p_elem:Bool)(p_p:aP):(Int)→Mo ((Int)⊕(Int)⊕Unit):=fun(v0)=>
 .nu p_p.bJ aP.lf<|
 .iB (decide ((v0:Int)<(p_p.bJ.length:Int))) (.jp Tryz.f168 0 [1,1,1,1,1,1,1,1,0,1,0,0,1,0,0,0] 53 [1,2,7] 1 (.normal) (fun r_=>⟨[(1,.b_ p_elem),(2,.ptr 0 0),(7,.i_ v0),(8,.i_ r_)],[dB p_p]⟩) ⟨[(1,.b_ p_elem),(2,.ptr 0 0),(7,.i_ v0)],[dB p_p]⟩ (adJ R_ p_elem p_p v0) (jW (by kernel_rfl)) fun r0 _=>
 .iB (r0 != 0) (.ret ⟨[.kill 0],[4],[],1⟩ (.inr (.inl (r0))))<|
 .rt [1,2,7] 1 (.inl (IntKind.wrap .i64 (v0+1))))<|
 .ret ⟨[.kill 0],[],[],1⟩ (.inr (.inr (())))
def vY(R_:uM)(p_elem:Bool)(p_p:aP)(v0:Int):Option ((Int)⊕Unit):=bQ (fun v_=>(yL R_ p_elem p_p v_).den) FU (v0)
def apW(R_:uM)(p_p:aP)(p_elem:Bool):Mo (Int):=
 .sf Tryz.f168 0 [1,0,0] 0 8 1 [(1,.b_ p_elem),(2,.ptr 0 0)] [dB p_p] 16 (af7 R_ p_elem p_p) fun r0=>
 .sb Tryz.f168 0 [1,0,0] 8 5 1 [(1,.b_ p_elem),(2,.ptr 0 0)] [dB p_p] 16 21 r0 (af8 R_ p_elem p_p r0) fun r1=>
 .sb Tryz.f168 0 [1,0,0] 13 11 1 [(1,.b_ p_elem),(2,.ptr 0 0)] [dB p_p] 21 32 r1 (ZK R_ p_elem p_p r1) fun r2=>
 .sb Tryz.f168 0 [1,0,0] 24 5 1 [(1,.b_ p_elem),(2,.ptr 0 0)] [dB p_p] 32 37 r2 (ZL R_ p_elem p_p r2) fun r3=>
 .iB (r3) (.ret (aY 1) (11))<|
 .sf Tryz.f168 0 [1,1,0,0] 0 9 3 [(1,.b_ p_elem),(2,.ptr 0 0)] [dB p_p] 46 (ZM R_ p_elem p_p) fun r4=>
 .sb Tryz.f168 0 [1,1,0,0] 9 10 3 [(1,.b_ p_elem),(2,.ptr 0 0)] [dB p_p] 46 56 r4 (ZN R_ p_elem p_p r4) fun r5=>
 .iB (r5) (.ret (aY 1) (10))<|
 .jk Tryz.f168 0 [1,1,1,0,0] 17 (fun r_=>⟨[(1,.b_ p_elem),(2,.ptr 0 0),(76,.b_ r_)],[dB p_p]⟩) ⟨[(1,.b_ p_elem),(2,.ptr 0 0)],[dB p_p]⟩ (ZO R_ p_elem p_p) fun r6=>
 .iB (r6) (.ret (aY 1) (8))<|
 .l2m [] Tryz.f168 0 [1,1,1,1,0,1,0] 0 (fun(v0)=>⟨[(1,.b_ p_elem),(2,.ptr 0 0),(5,.i_ v0)],[dB p_p]⟩) .ret (fun _=>⟨[(4,.i_ 8)],[.dead]⟩) (.exit 0) (fun _=>⟨[(1,.b_ p_elem),(2,.ptr 0 0)],[dB p_p]⟩) (adI R_ p_elem p_p 0) (yK R_ p_elem p_p) (0) (fun o0=>
 .ret (aY 1) (8)) fun o1=>
 .j2 [] Tryz.f168 0 [1,1,1,1,1,0,1] 1 .ret (fun o_=>⟨[(4,.i_ o_)],[.dead]⟩) .normal (fun _=>⟨[(1,.b_ p_elem),(2,.ptr 0 0)],[dB p_p]⟩) ⟨[(1,.b_ p_elem),(2,.ptr 0 0),(98,.lf (.bool (p_p.fOp==18)))],[dB p_p]⟩ (ZP R_ p_elem p_p) (fun o2=>
 .ret (aY 1) (o2)) fun o3=>
 .cl (auh p_p) fun r7 _=>
 .iB (!r7) (.ret (aY 1) (4))<|
 .iB (p_p.fOp==24) (.cl (apV p_p.fExpr) fun r8 _=>
 .ret (aY 1) (r8))<|
 .l2m [] Tryz.f168 0 [1,1,1,1,1,1,1,1,0,1,0] 0 (fun(v1)=>⟨[(1,.b_ p_elem),(2,.ptr 0 0),(7,.i_ v1)],[dB p_p]⟩) .ret (fun o_=>⟨[(4,.i_ o_)],[.dead]⟩) (.exit 2) (fun _=>⟨[],[.dead]⟩) (vY R_ p_elem p_p 0) (yL R_ p_elem p_p) (0) (fun o4=>
 .ret (aY 1) (o4)) fun o5=>
 .ret (aY 1) (0)
theorem aun(R_:uM):WH fun p_p p_elem=>Mo.den (apW R_ p_p p_elem):=fun _ _=>cO Tryz.func168
def qC:Nat→uM
 |0=>{ m1:=fun p_p p_elem=>none,ok1:=fun _ _ _ h=>(by cases h) }
 |n_+1=>{ m1:=fun p_p p_elem=>Mo.den (apW (qC n_) p_p p_elem),ok1:=aun (qC n_) }
def Q2(p_p:aP)(p_elem:Bool):Option (Int):=(qC FU).m1 p_p p_elem
theorem avH:WH Q2:=(qC FU).ok1
def alR(p_p:aP):Mo (Int):=
 .cl (aua p_p 16 256) fun r0 _=>
 .iB (decide ((r0:Int)<0)) (.ret (aY 1) (2))<|
 .cl (avH p_p false) fun r1 _=>
 .ret (aY 1) (r1)
def auo(p_p:aP):Option (Int):=Mo.den (alR p_p)
theorem apX(p_p:aP):FV (auo p_p) 122 [.dat (aP.lf1 p_p)] .i_:=cO Tryz.func122
def alS(p_a:List ByteArray)(p_b:List ByteArray):Mo (Bool):=
 .nu p_a lfS<|
 .nu p_b lfS<|
 .iB (decide (((p_b.length:Int):Int)<(p_a.length:Int))) (.ret (aY 1) (false))<|
 .l2m [] Tryz.f263 0 [1,1,0,1,0] 0 (fun(v0)=>⟨[(0,.lf (.rows 1 (p_a.map lfS))),(1,.lf (.rows 1 (p_b.map lfS))),(5,.i_ v0)],[]⟩) .ret (fun _=>⟨[(4,.b_ false)],[]⟩) (.exit 0) (fun _=>⟨[],[]⟩) (adE p_a p_b 0) (uJ p_a p_b) (0) (fun o0=>
 .ret (aY 1) (false)) fun o1=>
 .ret (aY 1) (true)
def avI(p_a:List ByteArray)(p_b:List ByteArray):Option (Bool):=Mo.den (alS p_a p_b)
theorem apY(p_a:List ByteArray)(p_b:List ByteArray):FV (avI p_a p_b) 263 [.lf (.rows 1 (p_a.map lfS)),.lf (.rows 1 (p_b.map lfS))] .b_:=cO Tryz.func263
def alT(p_a:List ByteArray)(p_b:List ByteArray):Mo (Bool):=
 .nu p_a lfS<|
 .nu p_b lfS<|
 .iG 4005 ((p_a.length:Int)==(p_b.length:Int)) (.cl (apY p_a p_b) fun r0 _=>
 .ret (aY 1) (r0))<|
 .ret (aY 1) (false)
def aup(p_a:List ByteArray)(p_b:List ByteArray):Option (Bool):=Mo.den (alT p_a p_b)
theorem af9(p_a:List ByteArray)(p_b:List ByteArray):FV (aup p_a p_b) 215 [.lf (.rows 1 (p_a.map lfS)),.lf (.rows 1 (p_b.map lfS))] .b_:=cO Tryz.func215
abbrev WI(m:aT→aT→Option (Bool)):Prop:=∀p_a p_b,FV (m p_a p_b) 170 [.dat (aT.lf1 p_a),.dat (aT.lf1 p_b)] .b_
structure MK where
 m1:(p_a:aT)→(p_b:aT)→Option (Bool)
 ok1:WI m1
def ZR(R_:MK)(p_a:aT)(p_b:aT):Mo (Bool):=
 .iG 4005 (p_a.fOp != p_b.fOp) (.rt [2,3,18] 2 (true))<|
 .cl (af9 p_a.cZ p_b.cZ) fun r0 _=>
 .rt [2,3,18] 2 (!r0)
def ZT(R_:MK)(p_a:aT)(p_b:aT)(r0:Bool):Mo (Bool):=
 .oV 4013 (r0) [2,3,25] 2 (!decide ((p_a.fName:ByteArray)=(p_b.fName:ByteArray)))
def RZ(R_:MK)(p_a:aT)(p_b:aT)(r0:Bool):Mo (Bool):=
 .iG 4020 (r0) (.rt [2,3,33] 2 (true))<|
 .cl (af9 p_a.eH p_b.eH) fun r1 _=>
 .rt [2,3,33] 2 (!r1)
def Si(R_:MK)(p_a:aT)(p_b:aT)(r0:Bool):Mo (Bool):=
 .iG 4028 (r0) (.rt [2,3,41] 2 (true))<|
 .cl (WE p_a.fArg p_b.fArg) fun r1 _=>
 .rt [2,3,41] 2 (!r1)
def Sj(R_:MK)(p_a:aT)(p_b:aT)(r0:Bool):Mo (Bool):=
 .oV 4036 (r0) [2,3,48] 2 (p_a.fN != p_b.fN)
def Sm(R_:MK)(p_a:aT)(p_b:aT)(r0:Bool):Mo (Bool):=
 .iG 4043 (r0) (.rt [2,3,57] 2 (true))<|
 .nu p_a.bJ aT.lf<|
 .nu p_b.bJ aT.lf<|
 .rt [2,3,57] 2 ((p_a.bJ.length:Int) != (p_b.bJ.length:Int))
def Hr(R_:MK)(p_a:aT)(p_b:aT):(Int)→Mo ((Int)⊕(Unit⊕Unit)):=fun(v0)=>
 .nu p_a.bJ aT.lf<|
 .iB (decide ((v0:Int)<(p_a.bJ.length:Int))) (.ask (fQ p_a.bJ v0) fun x0 h0=>
 .say [] (ok1 (bU aT.aX h0))<|
 .ask (fQ p_b.bJ v0) fun x1 h1=>
 .say [] (ok1 (bU aT.aX h1))<|
 .ask (R_.m1 x0 x1) fun r0 h2=>
 .say [.gY (.q 0 (.q 1 (.q 2 (.q 3 (.q 4 (.q 5 (.q 6 (.q 7 (.q 8 (.q 9 (.l 10 (.q 11 .fin)))))))))))) (some 10) [] [.row (aT.lf1 x0),.row (aT.lf1 x1),.res (.b_ r0)] [2,3,5,76] 2 [(2,.ptr 0 0),(3,.ptr 1 0),(5,.i_ v0),(76,.lf (.bool (!r0)))] [dJ p_a,dJ p_b]] (okc (R_.ok1 _ _ _ h2) (ok1 (rf_ ⟨[(2,.ptr 0 0),(3,.ptr 1 0),(5,.i_ v0),(76,.lf (.bool (!r0)))],[dJ p_a,dJ p_b]⟩)))<|
 .iB (!r0) (.ret ⟨[.kill 0,.kill 1],[4],[],2⟩ (.inr (.inl ())))<|
 .rt [2,3,5] 2 (.inl (IntKind.wrap .i64 (v0+1))))<|
 .ret ⟨[.kill 0,.kill 1],[],[],2⟩ (.inr (.inr (())))
def aga(R_:MK)(p_a:aT)(p_b:aT)(v0:Int):Option (Unit⊕Unit):=bQ (fun v_=>(Hr R_ p_a p_b v_).den) FU (v0)
def agb(R_:MK)(p_a:aT)(p_b:aT):Mo (Bool):=
 .sf Tryz.f170 0 [1,0,0] 0 13 1 [(2,.ptr 0 0),(3,.ptr 1 0)] [dJ p_a,dJ p_b] 18 (ZR R_ p_a p_b) fun r0=>
 .sb Tryz.f170 0 [1,0,0] 13 7 1 [(2,.ptr 0 0),(3,.ptr 1 0)] [dJ p_a,dJ p_b] 18 25 r0 (ZT R_ p_a p_b r0) fun r1=>
 .sb Tryz.f170 0 [1,0,0] 20 8 1 [(2,.ptr 0 0),(3,.ptr 1 0)] [dJ p_a,dJ p_b] 25 33 r1 (RZ R_ p_a p_b r1) fun r2=>
 .sb Tryz.f170 0 [1,0,0] 28 8 1 [(2,.ptr 0 0),(3,.ptr 1 0)] [dJ p_a,dJ p_b] 33 41 r2 (Si R_ p_a p_b r2) fun r3=>
 .sb Tryz.f170 0 [1,0,0] 36 7 1 [(2,.ptr 0 0),(3,.ptr 1 0)] [dJ p_a,dJ p_b] 41 48 r3 (Sj R_ p_a p_b r3) fun r4=>
 .sb Tryz.f170 0 [1,0,0] 43 9 1 [(2,.ptr 0 0),(3,.ptr 1 0)] [dJ p_a,dJ p_b] 48 57 r4 (Sm R_ p_a p_b r4) fun r5=>
 .iB (r5) (.ret (aY 1) (false))<|
 .l2m [] Tryz.f170 0 [1,1,0,1,0] 0 (fun(v0)=>⟨[(2,.ptr 0 0),(3,.ptr 1 0),(5,.i_ v0)],[dJ p_a,dJ p_b]⟩) .ret (fun _=>⟨[(4,.b_ false)],[.dead,.dead]⟩) (.exit 0) (fun _=>⟨[],[.dead,.dead]⟩) (aga R_ p_a p_b 0) (Hr R_ p_a p_b) (0) (fun o0=>
 .ret (aY 1) (false)) fun o1=>
 .ret (aY 1) (true)
theorem apZ(R_:MK):WI fun p_a p_b=>Mo.den (agb R_ p_a p_b):=fun _ _=>cO Tryz.func170
def Ht:Nat→MK
 |0=>{ m1:=fun p_a p_b=>none,ok1:=fun _ _ _ h=>(by cases h) }
 |n_+1=>{ m1:=fun p_a p_b=>Mo.den (agb (Ht n_) p_a p_b),ok1:=apZ (Ht n_) }
def Q30(p_a:aT)(p_b:aT):Option (Bool):=(Ht FU).m1 p_a p_b
theorem auq:WI Q30:=(Ht FU).ok1
def ZU(p_p:aP)(r0:Bool):Mo (Bool):=
 .aC 4009 (r0) [1,2,17] 1 (WE p_p.fArg (ah.mk 0 0 ⟨#[]⟩ [] []))
def Sr(p_p:aP)(r0:Bool):Mo (Bool):=
 .iG 4015 (r0) (.nu p_p.fArgs ah.lf<|
 .rt [1,2,23] 1 ((p_p.fArgs.length:Int)==0))<|
 .rt [1,2,23] 1 (false)
def Sv(p_p:aP)(r0:Bool):Mo (Bool):=
 .aV 4021 (r0) [1,2,28] 1 (p_p.fN==0)
def Sz(p_p:aP)(r0:Bool):Mo (Bool):=
 .aV 4026 (r0) [1,2,33] 1 (p_p.fM==0)
def SA(p_p:aP)(r0:Bool):Mo (Bool):=
 .aV 4031 (r0) [1,2,39] 1 (p_p.eF.aK==0)
def SB(p_p:aP)(r0:Bool):Mo (Bool):=
 .iG 4037 (r0) (.nu p_p.eF.bK dO.lf<|
 .rt [1,2,46] 1 ((p_p.eF.bK.length:Int)==0))<|
 .rt [1,2,46] 1 (false)
def SC(p_p:aP)(r0:Bool):Mo (Bool):=
 .aV 4044 (r0) [1,2,52] 1 (p_p.eF.fR==0)
def SE(p_p:aP)(r0:Bool):Mo (Bool):=
 .aC 4050 (r0) [1,2,58] 1 (auq p_p.fExpr aT.z)
def SG(p_p:aP)(r0:Bool):Mo (Bool):=
 .iG 4056 (r0) (.nu p_p.bJ aP.lf<|
 .ret ⟨[.kill 0],[2,64],[],1⟩ ((p_p.bJ.length:Int)==0))<|
 .ret ⟨[.kill 0],[2,64],[],1⟩ (false)
def arb(p_p:aP):Mo (Bool):=
 .sf Tryz.f123 0 [1,0] 0 9 1 [(1,.ptr 0 0),(2,.b_ false)] [dB p_p] 11 (um p_p) fun r0=>
 .sb Tryz.f123 0 [1,0] 9 6 1 [(1,.ptr 0 0),(2,.b_ false)] [dB p_p] 11 17 r0 (ZU p_p r0) fun r1=>
 .sb Tryz.f123 0 [1,0] 15 6 1 [(1,.ptr 0 0),(2,.b_ false)] [dB p_p] 17 23 r1 (Sr p_p r1) fun r2=>
 .sb Tryz.f123 0 [1,0] 21 5 1 [(1,.ptr 0 0),(2,.b_ false)] [dB p_p] 23 28 r2 (Sv p_p r2) fun r3=>
 .sb Tryz.f123 0 [1,0] 26 5 1 [(1,.ptr 0 0),(2,.b_ false)] [dB p_p] 28 33 r3 (Sz p_p r3) fun r4=>
 .sb Tryz.f123 0 [1,0] 31 6 1 [(1,.ptr 0 0),(2,.b_ false)] [dB p_p] 33 39 r4 (SA p_p r4) fun r5=>
 .sb Tryz.f123 0 [1,0] 37 7 1 [(1,.ptr 0 0),(2,.b_ false)] [dB p_p] 39 46 r5 (SB p_p r5) fun r6=>
 .sb Tryz.f123 0 [1,0] 44 6 1 [(1,.ptr 0 0),(2,.b_ false)] [dB p_p] 46 52 r6 (SC p_p r6) fun r7=>
 .sb Tryz.f123 0 [1,0] 50 6 1 [(1,.ptr 0 0),(2,.b_ false)] [dB p_p] 52 58 r7 (SE p_p r7) fun r8=>
 .sk Tryz.f123 0 [1,0] 56 6 1 (fun r_=>⟨[(2,.b_ false),(64,.b_ r_)],[.dead]⟩) ⟨[(1,.ptr 0 0),(2,.b_ false),(58,.b_ r8)],[dB p_p]⟩ (SG p_p r8) fun r9=>
 .sk Tryz.f123 0 [1,0] 62 1 1 (fun r_=>⟨[(2,.b_ r9)],[.dead]⟩) ⟨[(2,.b_ false),(64,.b_ r9)],[.dead]⟩ (dG r9) fun r10=>
 .ret (aY 1) (r9)
def Q32(p_p:aP):Option (Bool):=Mo.den (arb p_p)
theorem aur(p_p:aP):FV (Q32 p_p) 123 [.dat (aP.lf1 p_p)] .b_:=cO Tryz.func123
def SH(p_x:aU):Mo (Bool):=
 .oV 8003 (decide ((p_x.aK:Int)<1)) [1,15] 1 (decide ((3:Int)<p_x.aK))
def SK(p_x:aU):Mo (Bool):=
 .nu p_x.gU bf.lf<|
 .iG 18004 ((p_x.gU.length:Int)==0) (.rt [1,47] 1 (true))<|
 .iG 18008 (p_x.aK != 1) (.nu p_x.gU bf.lf<|
 .iG 18013 (decide ((1:Int)<(p_x.gU.length:Int))) (.rt [1,47] 1 (true))<|
 .gx bf.aX p_x.gU 0 fun x0 _=>
 .oV 18020 (x0.Il) [1,47] 1 (p_x.jG))<|
 .rt [1,47] 1 (false)
def alU(p_x:aU):Mo (Int):=
 .cl (Cc p_x.fName) fun r0 _=>
 .iB (!r0) (.ret (aY 1) (9))<|
 .jk Tryz.f81 0 [1,1,0,0] 13 (fun r_=>⟨[(1,.ptr 0 0),(15,.b_ r_)],[mY p_x]⟩) ⟨[(1,.ptr 0 0)],[mY p_x]⟩ (SH p_x) fun r1=>
 .iB (r1) (.ret (aY 1) (8))<|
 .cl (at7 p_x.gU) fun r2 _=>
 .iB (r2 != 0) (.ret (aY 1) (r2))<|
 .jk Tryz.f81 0 [1,1,1,1,0,0] 23 (fun r_=>⟨[(1,.ptr 0 0),(47,.b_ r_)],[mY p_x]⟩) ⟨[(1,.ptr 0 0)],[mY p_x]⟩ (SK p_x) fun r3=>
 .iB (r3) (.ret (aY 1) (11))<|
 .iB (p_x.lQ) (.cl (apX p_x.jr) fun r4 _=>
 .ret (aY 1) (r4))<|
 .cl (aur p_x.jr) fun r5 _=>
 .iB (!r5) (.ret (aY 1) (4))<|
 .ret (aY 1) (0)
def aus(p_x:aU):Option (Int):=Mo.den (alU p_x)
theorem agc(p_x:aU):FV (aus p_x) 81 [.dat (aU.lf1 p_x)] .i_:=cO Tryz.func81
def Ar(p_l:List aU)(p_name:ByteArray):(Int)→Mo ((Int)⊕(Int)⊕Unit):=fun(v0)=>
 .nu p_l aU.lf<|
 .iB (decide ((v0:Int)<(p_l.length:Int))) (.gx aU.aX p_l v0 fun x0 _=>
 .iB (decide ((x0.fName:ByteArray)=(p_name:ByteArray))) (.rt [4] 0 (.inr (.inl (v0))))<|
 .rt [0,1,5] 0 (.inl (IntKind.wrap .i64 (v0+1))))<|
 .rt [] 0 (.inr (.inr (())))
def WJ(p_l:List aU)(p_name:ByteArray)(v0:Int):Option ((Int)⊕Unit):=bQ (fun v_=>(Ar p_l p_name v_).den) FU (v0)
def alV(p_l:List aU)(p_name:ByteArray):Mo (Int):=
 .l2m [] Tryz.f119 0 [1,0,1,0] 0 (fun(v0)=>⟨[(0,.lf (.rows 31 (p_l.map aU.lf))),(1,.lf (.str p_name)),(5,.i_ v0)],[]⟩) .ret (fun o_=>⟨[(4,.i_ o_)],[]⟩) (.exit 0) (fun _=>⟨[],[]⟩) (WJ p_l p_name 0) (Ar p_l p_name) (0) (fun o0=>
 .ret (aY 1) (o0)) fun o1=>
 .ret (aY 1) ((-1))
def aut(p_l:List aU)(p_name:ByteArray):Option (Int):=Mo.den (alV p_l p_name)
theorem ap0(p_l:List aU)(p_name:ByteArray):FV (aut p_l p_name) 119 [.lf (.rows 31 (p_l.map aU.lf)),.lf (.str p_name)] .i_:=cO Tryz.func119
def EC(p_l:List ByteArray):(Int)→Mo ((Int)⊕(Unit⊕Unit)):=fun(v0)=>
 .nu p_l lfS<|
 .iB (decide ((v0:Int)<(p_l.length:Int))) (.gx lS_ p_l v0 fun x0 _=>
 .cl (Cc x0) fun r0 _=>
 .iB (!r0) (.rt [2] 0 (.inr (.inl ())))<|
 .l2m [] Tryz.f256 0 [1,0,1,0,0,1,0,0,1,1,0] 0 (fun(v1)=>⟨[(0,.lf (.rows 1 (p_l.map lfS))),(3,.i_ v0),(4,.i_ v1)],[]⟩) .ret (fun _=>⟨[(2,.b_ false)],[]⟩) (.exit 2) (fun _=>⟨[(0,.lf (.rows 1 (p_l.map lfS))),(3,.i_ v0)],[]⟩) (Hg p_l v0 0) (ru p_l v0) (0) (fun o0=>
 .rt [2] 0 (.inr (.inl ()))) fun o1=>
 .rt [0,3] 0 (.inl (IntKind.wrap .i64 (v0+1))))<|
 .rt [] 0 (.inr (.inr (())))
def auu(p_l:List ByteArray)(v0:Int):Option (Unit⊕Unit):=bQ (fun v_=>(EC p_l v_).den) FU (v0)
def ard(p_l:List ByteArray):Mo (Bool):=
 .l2 Tryz.f256 0 [1,0,1,0] 0 (fun(v0)=>⟨[(0,.lf (.rows 1 (p_l.map lfS))),(3,.i_ v0)],[]⟩) .ret (fun _=>⟨[(2,.b_ false)],[]⟩) (.exit 0) (fun _=>⟨[],[]⟩) (EC p_l) (0) (fun o0=>
 .ret (aY 1) (false)) fun o1=>
 .ret (aY 1) (true)
def Q95(p_l:List ByteArray):Option (Bool):=Mo.den (ard p_l)
theorem alW(p_l:List ByteArray):FV (Q95 p_l) 256 [.lf (.rows 1 (p_l.map lfS))] .b_:=cO Tryz.func256
end
end Go.Proofs.YtbdcaeahocbkbaaGreatDoor
