/- Printed by dec.py. -/
import Derived.Test.YtflpefkohpjjpaaGreatDoorQN5
set_option linter.unusedSimpArgs false
set_option linter.unusedVariables false
namespace Go.Proofs.YtflpefkohpjjpaaGreatDoor
open Go.RowKit
set_option maxRecDepth 20000
set_option maxHeartbeats 4000000
noncomputable section
abbrev bV(p:aj):Slot:=.box 25 (.dat (aj.lf1 p))
abbrev jB(p:ay):Slot:=.box 31 (.dat (ay.lf1 p))
abbrev vC(p:cu):Slot:=.box 33 (.dat (cu.lf1 p))
abbrev RQ(p:fF):Slot:=.box 37 (.dat (fF.lf1 p))
abbrev tu(p:aJ):Slot:=.box 40 (.dat (aJ.lf1 p))
abbrev lN(p:aH):Slot:=.box 43 (.dat (aH.lf1 p))
abbrev qG(p:aK):Slot:=.box 45 (.dat (aK.lf1 p))
abbrev cZ(p:au):Slot:=.box 49 (.dat (au.lf1 p))
abbrev mX(p:aZ):Slot:=.box 51 (.dat (aZ.lf1 p))
abbrev iE(p:gK):Slot:=.box 62 (.dat (gK.lf1 p))
abbrev bW(p:Y5):Slot:=.box 80 (.dat (Y5.lf1 p))
abbrev aQ(p:ah):Slot:=.box 84 (.dat (ah.lf1 p))
def zT(p_a:aZ)(p_b:aZ):Mo (Bool):=
 .iG 4005 (decide ((p_b.qA:Int)<p_a.qA)) (.ret ⟨[.kill 0,.kill 1],[4,23],[],2⟩ (true))<|
 .iG 4011 (p_a.qA==p_b.qA) (.ret ⟨[.kill 0,.kill 1],[4,23],[],2⟩ (decide ((p_b.dZ:Int)≤p_a.dZ)))<|
 .ret ⟨[.kill 0,.kill 1],[4,23],[],2⟩ (false)
def zU(r0:Bool):Mo (Unit):=
 .rt [4] 2 ()
def RS(p_a:aZ)(p_b:aZ):Mo (Bool):=
 .sk Tryz.f19 0 [1,0] 0 19 1 (fun r_=>⟨[(4,.b_ false),(23,.b_ r_)],[.dead,.dead]⟩) ⟨[(2,.ptr 0 0),(3,.ptr 1 0),(4,.b_ false)],[mX p_a,mX p_b]⟩ (zT p_a p_b) fun r0=>
 .sk Tryz.f19 0 [1,0] 19 1 1 (fun r_=>⟨[(4,.b_ r0)],[.dead,.dead]⟩) ⟨[(4,.b_ false),(23,.b_ r0)],[.dead,.dead]⟩ (zU r0) fun r1=>
 .ret (dK 1) (r0)
def Q29(p_a:aZ)(p_b:aZ):Option (Bool):=Mo.den (RS p_a p_b)
theorem lQ(p_a:aZ)(p_b:aZ):FV (Q29 p_a p_b) 19 [.dat (aZ.lf1 p_a),.dat (aZ.lf1 p_b)] .b_:=dS Tryz.func19
def Xa(p_n:Int):Mo (aj):=
 .ret (dK 1) (aj.mk 3 p_n ⟨#[]⟩ [] [])
def Q74(p_n:Int):Option (aj):=Mo.den (Xa p_n)
theorem BQ(p_n:Int):FV (Q74 p_n) 74 [.i_ p_n] (fun r=>.dat (aj.lf1 r)):=dS Tryz.func74
def Xb(p_stamp:Int)(p_key:Int)(p_id:Int):Mo (aZ):=
 .cl (BQ p_id) fun r0 _=>
 .ask (Q74 p_key) fun r1 h0=>
 .say [.kJ (.q 0 (.q 1 (.q 2 (.alt 3 (.l 4 (.q 5 (.q 6 (.l 7 .fin)))) (.l 4 (.l 3 (.q 5 (.q 6 (.l 7 .fin))))))))) (some 7) [] [.both [.res (.dat (aj.lf1 r1))] [.res (.dat (aj.lf1 r1))]] [6] 3 [(6,.ptr 0 0)] [.box 51 (gu Z51 [(0,.i_ 1),(1,.i_ p_stamp),(4,.i_ 2),(5,.lf (.str ⟨#[115]⟩)),(6,.i_ r1.aB),(7,.i_ r1.dY),(8,.lf (.str r1.fText)),(9,.lf (.rows 5 (r1.dM.map aj.lf))),(10,.lf (.rows 6 (r1.bF.map aA.lf))),(11,.i_ 5),(15,.own 1)]),.row 115 6 [(aA.lf1 (aA.mk ⟨#[95,105,100]⟩ r0))],.box 25 (.agg [.i_ 5,.i_ 0,.lf (.str ⟨#[]⟩),.aY 5,.own 1])],.at_ 0 0,.Aq 1 ([aA.mk ⟨#[95,105,100]⟩ r0].map aA.lf)] (okc (BQ _ _ h0) (okc (rf_ ⟨[(6,.ptr 0 0)],[.box 51 (gu Z51 [(0,.i_ 1),(1,.i_ p_stamp),(4,.i_ 2),(5,.lf (.str ⟨#[115]⟩)),(6,.i_ r1.aB),(7,.i_ r1.dY),(8,.lf (.str r1.fText)),(9,.lf (.rows 5 (r1.dM.map aj.lf))),(10,.lf (.rows 6 (r1.bF.map aA.lf))),(11,.i_ 5),(15,.own 1)]),.row 115 6 [(aA.lf1 (aA.mk ⟨#[95,105,100]⟩ r0))],.box 25 (.agg [.i_ 5,.i_ 0,.lf (.str ⟨#[]⟩),.aY 5,.own 1])]⟩) (okc (BQ _ _ h0) (okc (rf_ ⟨[(6,.ptr 0 0)],[.box 51 (gu Z51 [(0,.i_ 1),(1,.i_ p_stamp),(4,.i_ 2),(5,.lf (.str ⟨#[115]⟩)),(6,.i_ r1.aB),(7,.i_ r1.dY),(8,.lf (.str r1.fText)),(9,.lf (.rows 5 (r1.dM.map aj.lf))),(10,.lf (.rows 6 (r1.bF.map aA.lf))),(11,.i_ 5),(15,.own 1)]),.row 115 6 [(aA.lf1 (aA.mk ⟨#[95,105,100]⟩ r0))],.box 25 (.agg [.i_ 5,.i_ 0,.lf (.str ⟨#[]⟩),.aY 5,.own 1])]⟩) (ok1 (by simp[aA.dw]:[aA.mk ⟨#[95,105,100]⟩ r0].map aA.lf=[(aA.lf1 (aA.mk ⟨#[95,105,100]⟩ r0))]))))))<|
 .ret (dK 1) (aZ.mk 1 p_stamp ⟨#[]⟩ 0 (au.WR (au.WQ (au.Ji (au.uP au.z 2) ⟨#[115]⟩) r1) (aj.mk 5 0 ⟨#[]⟩ [] [aA.mk ⟨#[95,105,100]⟩ r0])))
def Q91(p_stamp:Int)(p_key:Int)(p_id:Int):Option (aZ):=Mo.den (Xb p_stamp p_key p_id)
theorem BR(p_stamp:Int)(p_key:Int)(p_id:Int):FV (Q91 p_stamp p_key p_id) 33 [.i_ p_stamp,.i_ p_key,.i_ p_id] (fun r=>.dat (aZ.lf1 r)):=dS Tryz.func33
def Dy(p_s:ByteArray):Mo (Bool):=
 .iG 4003 (decide (((p_s.size:Int):Int)<1)) (.stop)<|
 .rt [0,11] 0 (decide ((32:Int)<(p_s.size:Int)))
def Dz(p_s:ByteArray)(r0:Bool):Mo (Bool):=
 .iG 4008 (r0) (.stop)<|
 .ask (pF p_s 0) fun b0 h0=>
 .say [.byt b0] (ok1 (je h0))<|
 .rt [0,16] 0 ((b0.toNat:Int)==36)
def zV(p_s:ByteArray)(v0:Int):Mo (Bool):=
 .ask (pF p_s v0) fun b0 h0=>
 .say [.byt b0] (ok1 (je h0))<|
 .iG 14004 (decide (((b0.toNat:Int):Int)<33)) (.stop)<|
 .ask (pF p_s v0) fun b1 h1=>
 .say [.byt b1] (ok1 (je h1))<|
 .rt [0,3,18,19,31] 0 (decide ((126:Int)<(b1.toNat:Int)))
def zW(p_s:ByteArray)(r0:Bool)(v0:Int):Mo (Bool):=
 .iG 14010 (r0) (.stop)<|
 .ask (pF p_s v0) fun b0 h0=>
 .say [.byt b0] (ok1 (je h0))<|
 .rt [0,18,19,37] 0 ((b0.toNat:Int)==46)
def zX(p_s:ByteArray):(Int)→Mo ((Int)⊕(Unit⊕Unit)):=fun(v0)=>
 .iB (decide ((v0:Int)<(p_s.size:Int))) (.sf Tryz.f29 0 [1,1,0,1,0,0,1,1,0,0,1,0] 0 10 6 [(0,.lf (.str p_s)),(3,.i_ v0),(18,.i_ (p_s.size:Int)),(19,.i_ v0)] [] 31 (zV p_s v0) fun r0=>
 .sk Tryz.f29 0 [1,1,0,1,0,0,1,1,0,0,1,0] 10 6 6 (fun r_=>⟨[(0,.lf (.str p_s)),(18,.i_ (p_s.size:Int)),(19,.i_ v0),(37,.b_ r_)],[]⟩) ⟨[(0,.lf (.str p_s)),(3,.i_ v0),(18,.i_ (p_s.size:Int)),(19,.i_ v0),(31,.b_ r0)],[]⟩ (zW p_s r0 v0) fun r1=>
 .iB (r1) (.stop)<|
 .rt [0,18,19] 0 (.inl (IntKind.wrap .i64 (v0+1))))<|
 .rt [] 0 (.inr (.inr (())))
def JH(p_s:ByteArray)(v0:Int):Option (Unit⊕Unit):=jH (fun v_=>(zX p_s v_).den) FU (v0)
def oK(p_s:ByteArray):(Int)→St:=fun(v0)=>⟨[(0,.lf (.str p_s)),(18,.i_ (p_s.size:Int)),(19,.i_ v0)],[]⟩
def iV(r_:Unit⊕Unit):Exit:=match r_ with
 |.inl o_=>.ret
 |.inr (o_)=>.exit 0
def kG  (r_:Unit⊕Unit):St:=match r_ with
 |.inl o_=>⟨[(2,.b_ false)],[]⟩
 |.inr (o_)=>⟨[],[]⟩
theorem JI{p_s:ByteArray}{v0:Int}{r_:Unit⊕Unit}(h:JH p_s v0=some r_):pG Tryz.f29 0 [1,1,0,1,0] (iV r_) (kG r_) (oK p_s (v0)):=
 kU jw (body:=(Code.sub (bodyC Tryz.f29) [1,1,0,1,0,0])) (by kernel_rfl) (zX p_s) (oK p_s) iV kG (fun r_=>by rcases r_ with _|_<;>rfl) (fun v_=>by kernel_rfl) h
def Yx(p_s:ByteArray):Mo (Bool):=
 .sf Tryz.f29 0 [1,0,0] 0 8 1 [(0,.lf (.str p_s))] [] 11 (Dy p_s) fun r0=>
 .sb Tryz.f29 0 [1,0,0] 8 5 1 [(0,.lf (.str p_s))] [] 11 16 r0 (Dz p_s r0) fun r1=>
 .iB (r1) (.stop)<|
 .ask2 (JH p_s 0) (fun _ _=>
 .stop) fun o0 h0=>
 .say [.pt_ 0 [0,18,19] 0 (iV (.inr (o0))) (kG (.inr (o0)))] (ok1 (JI h0))<|
 .ret (dK 1) (true)
def Q3(p_s:ByteArray):Option (Bool):=Mo.den (Yx p_s)
theorem Xc(p_s:ByteArray):FV (Q3 p_s) 29 [.lf (.str p_s)] .b_:=dS Tryz.func29
def UO(p_kind:Int):Mo (aF):=
 .iB (p_kind==2) (.ret (dK 1) (aF.Ym (aF.Yl (aF.Uj aF.z true) true) true))<|
 .iB (p_kind==3) (.stop)<|
 .iB (p_kind==4) (.stop)<|
 .iB (p_kind==5) (.stop)<|
 .iB (p_kind==6) (.stop)<|
 .iB (p_kind==7) (.stop)<|
 .iB (p_kind==8) (.stop)<|
 .iB (p_kind==9) (.stop)<|
 .iB (p_kind==10) (.stop)<|
 .iB (p_kind==11) (.stop)<|
 .iB (p_kind==12) (.stop)<|
 .ret (dK 1) (aF.z)
def Yy(p_kind:Int):Option (aF):=Mo.den (UO p_kind)
theorem DC(p_kind:Int):FV (Yy p_kind) 56 [.i_ p_kind] (fun r=>.dat (aF.lf1 r)):=dS Tryz.func56
def PO(p_v:aj):Mo (Bool):=
 .aV 4003 (p_v.aB==0) [1,2,10] 1 (p_v.dY==0)
def PS(p_v:aj)(r0:Bool):Mo (Bool):=
 .aV 4008 (r0) [1,2,15] 1 (decide ((p_v.fText:ByteArray)=(⟨#[]⟩:ByteArray)))
def JJ(p_v:aj)(r0:Bool):Mo (Bool):=
 .iG 4013 (r0) (.nu p_v.dM aj.lf<|
 .rt [1,2,21] 1 ((p_v.dM.length:Int)==0))<|
 .rt [1,2,21] 1 (false)
def JK(p_v:aj)(r0:Bool):Mo (Bool):=
 .iG 4019 (r0) (.nu p_v.bF aA.lf<|
 .ret ⟨[.kill 0],[2,27],[],1⟩ ((p_v.bF.length:Int)==0))<|
 .ret ⟨[.kill 0],[2,27],[],1⟩ (false)
def jl(r0:Bool):Mo (Unit):=
 .rt [2] 1 ()
def Yz(p_v:aj):Mo (Bool):=
 .sf Tryz.f112 0 [1,0] 0 8 1 [(1,.ptr 0 0),(2,.b_ false)] [bV p_v] 10 (PO p_v) fun r0=>
 .sb Tryz.f112 0 [1,0] 8 5 1 [(1,.ptr 0 0),(2,.b_ false)] [bV p_v] 10 15 r0 (PS p_v r0) fun r1=>
 .sb Tryz.f112 0 [1,0] 13 6 1 [(1,.ptr 0 0),(2,.b_ false)] [bV p_v] 15 21 r1 (JJ p_v r1) fun r2=>
 .sk Tryz.f112 0 [1,0] 19 6 1 (fun r_=>⟨[(2,.b_ false),(27,.b_ r_)],[.dead]⟩) ⟨[(1,.ptr 0 0),(2,.b_ false),(21,.b_ r2)],[bV p_v]⟩ (JK p_v r2) fun r3=>
 .sk Tryz.f112 0 [1,0] 25 1 1 (fun r_=>⟨[(2,.b_ r3)],[.dead]⟩) ⟨[(2,.b_ false),(27,.b_ r3)],[.dead]⟩ (jl r3) fun r4=>
 .ret (dK 1) (r3)
def Q9(p_v:aj):Option (Bool):=Mo.den (Yz p_v)
theorem oL(p_v:aj):FV (Q9 p_v) 112 [.dat (aj.lf1 p_v)] .b_:=dS Tryz.func112
def PU(p_s:ay):Mo (Bool):=
 .iG 4003 (p_s.jo==0) (.rt [1,2,10] 1 (!p_s.iF))<|
 .stop
def PV(p_s:ay)(r0:Bool):Mo (Bool):=
 .iG 4008 (r0) (.cl (oL p_s.iW) fun r1 _=>
 .rt [1,2,15] 1 (r1))<|
 .stop
def JL(p_s:ay)(r0:Bool):Mo (Bool):=
 .iG 4013 (r0) (.rt [1,2,20] 1 (!p_s.iH))<|
 .stop
def JM(p_s:ay)(r0:Bool):Mo (Bool):=
 .iG 4018 (r0) (.cl (oL p_s.iY) fun r1 _=>
 .rt [1,2,25] 1 (r1))<|
 .stop
def JO(p_s:ay)(r0:Bool):Mo (Bool):=
 .iG 4023 (r0) (.nu p_s.kF aj.lf<|
 .rt [1,2,31] 1 ((p_s.kF.length:Int)==0))<|
 .stop
def JQ(p_s:ay)(r0:Bool):Mo (Bool):=
 .iG 4029 (r0) (.rt [1,2,36] 1 (p_s.iI==0))<|
 .stop
def JR(p_s:ay)(r0:Bool):Mo (Bool):=
 .iG 4034 (r0) (.rt [1,2,41] 1 (p_s.iJ==0))<|
 .stop
def JU(p_s:ay)(r0:Bool):Mo (Bool):=
 .iG 4039 (r0) (.nu p_s.eP lfS<|
 .rt [1,2,47] 1 ((p_s.eP.length:Int)==0))<|
 .stop
def JV(p_s:ay)(r0:Bool):Mo (Bool):=
 .iG 4045 (r0) (.nu p_s.gY bn.lf<|
 .rt [1,2,53] 1 ((p_s.gY.length:Int)==0))<|
 .stop
def JW(p_s:ay)(r0:Bool):Mo (Bool):=
 .iG 4051 (r0) (.rt [1,2,58] 1 (!p_s.iK))<|
 .stop
def JX(p_s:ay)(r0:Bool):Mo (Bool):=
 .iG 4056 (r0) (.nu p_s.gZ ay.lf<|
 .rt [1,2,64] 1 ((p_s.gZ.length:Int)==0))<|
 .stop
def JY(p_s:ay)(r0:Bool):Mo (Bool):=
 .iG 4062 (r0) (.ret ⟨[.kill 0],[2,69],[],1⟩ (!p_s.dP))<|
 .stop
def YA(p_s:ay):Mo (Bool):=
 .sf Tryz.f252 0 [1,0] 0 8 1 [(1,.ptr 0 0),(2,.b_ false)] [jB p_s] 10 (PU p_s) fun r0=>
 .sb Tryz.f252 0 [1,0] 8 5 1 [(1,.ptr 0 0),(2,.b_ false)] [jB p_s] 10 15 r0 (PV p_s r0) fun r1=>
 .sb Tryz.f252 0 [1,0] 13 5 1 [(1,.ptr 0 0),(2,.b_ false)] [jB p_s] 15 20 r1 (JL p_s r1) fun r2=>
 .sb Tryz.f252 0 [1,0] 18 5 1 [(1,.ptr 0 0),(2,.b_ false)] [jB p_s] 20 25 r2 (JM p_s r2) fun r3=>
 .sb Tryz.f252 0 [1,0] 23 6 1 [(1,.ptr 0 0),(2,.b_ false)] [jB p_s] 25 31 r3 (JO p_s r3) fun r4=>
 .sb Tryz.f252 0 [1,0] 29 5 1 [(1,.ptr 0 0),(2,.b_ false)] [jB p_s] 31 36 r4 (JQ p_s r4) fun r5=>
 .sb Tryz.f252 0 [1,0] 34 5 1 [(1,.ptr 0 0),(2,.b_ false)] [jB p_s] 36 41 r5 (JR p_s r5) fun r6=>
 .sb Tryz.f252 0 [1,0] 39 6 1 [(1,.ptr 0 0),(2,.b_ false)] [jB p_s] 41 47 r6 (JU p_s r6) fun r7=>
 .sb Tryz.f252 0 [1,0] 45 6 1 [(1,.ptr 0 0),(2,.b_ false)] [jB p_s] 47 53 r7 (JV p_s r7) fun r8=>
 .sb Tryz.f252 0 [1,0] 51 5 1 [(1,.ptr 0 0),(2,.b_ false)] [jB p_s] 53 58 r8 (JW p_s r8) fun r9=>
 .sb Tryz.f252 0 [1,0] 56 6 1 [(1,.ptr 0 0),(2,.b_ false)] [jB p_s] 58 64 r9 (JX p_s r9) fun r10=>
 .sk Tryz.f252 0 [1,0] 62 5 1 (fun r_=>⟨[(2,.b_ false),(69,.b_ r_)],[.dead]⟩) ⟨[(1,.ptr 0 0),(2,.b_ false),(64,.b_ r10)],[jB p_s]⟩ (JY p_s r10) fun r11=>
 .sk Tryz.f252 0 [1,0] 67 1 1 (fun r_=>⟨[(2,.b_ r11)],[.dead]⟩) ⟨[(2,.b_ false),(69,.b_ r11)],[.dead]⟩ (jl r11) fun r12=>
 .ret (dK 1) (r11)
def Q8(p_s:ay):Option (Bool):=Mo.den (YA p_s)
theorem Xd(p_s:ay):FV (Q8 p_s) 252 [.dat (ay.lf1 p_s)] .b_:=dS Tryz.func252
def JZ(p_d:cu):Mo (Bool):=
 .iG 4003 (decide ((p_d.fName:ByteArray)=(⟨#[]⟩:ByteArray))) (.nu p_d.eU aK.lf<|
 .rt [1,2,11] 1 ((p_d.eU.length:Int)==0))<|
 .stop
def J3(p_d:cu)(r0:Bool):Mo (Bool):=
 .iG 4009 (r0) (.cl (Xd p_d.aI) fun r1 _=>
 .rt [1,2,16] 1 (r1))<|
 .stop
def Fb(p_d:cu)(r0:Bool):Mo (Bool):=
 .iG 4014 (r0) (.rt [1,2,21] 1 (p_d.kR==0))<|
 .stop
def Fe(p_d:cu)(r0:Bool):Mo (Bool):=
 .iG 4019 (r0) (.ret ⟨[.kill 0],[2,26],[],1⟩ (p_d.jE==0))<|
 .stop
def Xe(p_d:cu):Mo (Bool):=
 .sf Tryz.f176 0 [1,0] 0 9 1 [(1,.ptr 0 0),(2,.b_ false)] [vC p_d] 11 (JZ p_d) fun r0=>
 .sb Tryz.f176 0 [1,0] 9 5 1 [(1,.ptr 0 0),(2,.b_ false)] [vC p_d] 11 16 r0 (J3 p_d r0) fun r1=>
 .sb Tryz.f176 0 [1,0] 14 5 1 [(1,.ptr 0 0),(2,.b_ false)] [vC p_d] 16 21 r1 (Fb p_d r1) fun r2=>
 .sk Tryz.f176 0 [1,0] 19 5 1 (fun r_=>⟨[(2,.b_ false),(26,.b_ r_)],[.dead]⟩) ⟨[(1,.ptr 0 0),(2,.b_ false),(21,.b_ r2)],[vC p_d]⟩ (Fe p_d r2) fun r3=>
 .sk Tryz.f176 0 [1,0] 24 1 1 (fun r_=>⟨[(2,.b_ r3)],[.dead]⟩) ⟨[(2,.b_ false),(26,.b_ r3)],[.dead]⟩ (jl r3) fun r4=>
 .ret (dK 1) (r3)
def Q45(p_d:cu):Option (Bool):=Mo.den (Xe p_d)
theorem UQ(p_d:cu):FV (Q45 p_d) 176 [.dat (cu.lf1 p_d)] .b_:=dS Tryz.func176
def J4(p_e:aJ):Mo (Bool):=
 .iG 4003 (p_e.fOp==0) (.nu p_e.dW lfS<|
 .rt [1,2,11] 1 ((p_e.dW.length:Int)==0))<|
 .stop
def J5(p_e:aJ)(r0:Bool):Mo (Bool):=
 .iG 4009 (r0) (.rt [1,2,16] 1 (decide ((p_e.fName:ByteArray)=(⟨#[]⟩:ByteArray))))<|
 .stop
def Fg(p_e:aJ)(r0:Bool):Mo (Bool):=
 .iG 4014 (r0) (.nu p_e.gy lfS<|
 .rt [1,2,22] 1 ((p_e.gy.length:Int)==0))<|
 .stop
def Fh(p_e:aJ)(r0:Bool):Mo (Bool):=
 .iG 4020 (r0) (.cl (oL p_e.fArg) fun r1 _=>
 .rt [1,2,27] 1 (r1))<|
 .stop
def Fj(p_e:aJ)(r0:Bool):Mo (Bool):=
 .iG 4025 (r0) (.rt [1,2,32] 1 (p_e.fN==0))<|
 .stop
def Fp(p_e:aJ)(r0:Bool):Mo (Bool):=
 .iG 4030 (r0) (.nu p_e.dO aJ.lf<|
 .ret ⟨[.kill 0],[2,38],[],1⟩ ((p_e.dO.length:Int)==0))<|
 .stop
def Xf(p_e:aJ):Mo (Bool):=
 .sf Tryz.f297 0 [1,0] 0 9 1 [(1,.ptr 0 0),(2,.b_ false)] [tu p_e] 11 (J4 p_e) fun r0=>
 .sb Tryz.f297 0 [1,0] 9 5 1 [(1,.ptr 0 0),(2,.b_ false)] [tu p_e] 11 16 r0 (J5 p_e r0) fun r1=>
 .sb Tryz.f297 0 [1,0] 14 6 1 [(1,.ptr 0 0),(2,.b_ false)] [tu p_e] 16 22 r1 (Fg p_e r1) fun r2=>
 .sb Tryz.f297 0 [1,0] 20 5 1 [(1,.ptr 0 0),(2,.b_ false)] [tu p_e] 22 27 r2 (Fh p_e r2) fun r3=>
 .sb Tryz.f297 0 [1,0] 25 5 1 [(1,.ptr 0 0),(2,.b_ false)] [tu p_e] 27 32 r3 (Fj p_e r3) fun r4=>
 .sk Tryz.f297 0 [1,0] 30 6 1 (fun r_=>⟨[(2,.b_ false),(38,.b_ r_)],[.dead]⟩) ⟨[(1,.ptr 0 0),(2,.b_ false),(32,.b_ r4)],[tu p_e]⟩ (Fp p_e r4) fun r5=>
 .sk Tryz.f297 0 [1,0] 36 1 1 (fun r_=>⟨[(2,.b_ r5)],[.dead]⟩) ⟨[(2,.b_ false),(38,.b_ r5)],[.dead]⟩ (jl r5) fun r6=>
 .ret (dK 1) (r5)
def Q26(p_e:aJ):Option (Bool):=Mo.den (Xf p_e)
theorem UR(p_e:aJ):FV (Q26 p_e) 297 [.dat (aJ.lf1 p_e)] .b_:=dS Tryz.func297
def J6(p_p:aH):Mo (Bool):=
 .iG 4003 (p_p.fOp==0) (.nu p_p.dW lfS<|
 .rt [1,2,11] 1 ((p_p.dW.length:Int)==0))<|
 .stop
def J7(p_p:aH)(r0:Bool):Mo (Bool):=
 .iG 4009 (r0) (.cl (oL p_p.fArg) fun r1 _=>
 .rt [1,2,16] 1 (r1))<|
 .stop
def Fq(p_p:aH)(r0:Bool):Mo (Bool):=
 .iG 4014 (r0) (.nu p_p.fArgs aj.lf<|
 .rt [1,2,22] 1 ((p_p.fArgs.length:Int)==0))<|
 .stop
def Fv(p_p:aH)(r0:Bool):Mo (Bool):=
 .iG 4020 (r0) (.rt [1,2,27] 1 (p_p.fN==0))<|
 .stop
def Fz(p_p:aH)(r0:Bool):Mo (Bool):=
 .iG 4025 (r0) (.rt [1,2,32] 1 (p_p.fM==0))<|
 .stop
def FB(p_p:aH)(r0:Bool):Mo (Bool):=
 .iG 4030 (r0) (.rt [1,2,38] 1 (p_p.dJ.aB==0))<|
 .stop
def FC(p_p:aH)(r0:Bool):Mo (Bool):=
 .iG 4036 (r0) (.nu p_p.dJ.fC bU.lf<|
 .rt [1,2,45] 1 ((p_p.dJ.fC.length:Int)==0))<|
 .stop
def FD(p_p:aH)(r0:Bool):Mo (Bool):=
 .iG 4043 (r0) (.rt [1,2,51] 1 (p_p.dJ.fR==0))<|
 .stop
def FI(p_p:aH)(r0:Bool):Mo (Bool):=
 .iG 4049 (r0) (.cl (UR p_p.fExpr) fun r1 _=>
 .rt [1,2,56] 1 (r1))<|
 .stop
def FK(p_p:aH)(r0:Bool):Mo (Bool):=
 .iG 4054 (r0) (.nu p_p.dO aH.lf<|
 .ret ⟨[.kill 0],[2,62],[],1⟩ ((p_p.dO.length:Int)==0))<|
 .stop
def Xg(p_p:aH):Mo (Bool):=
 .sf Tryz.f253 0 [1,0] 0 9 1 [(1,.ptr 0 0),(2,.b_ false)] [lN p_p] 11 (J6 p_p) fun r0=>
 .sb Tryz.f253 0 [1,0] 9 5 1 [(1,.ptr 0 0),(2,.b_ false)] [lN p_p] 11 16 r0 (J7 p_p r0) fun r1=>
 .sb Tryz.f253 0 [1,0] 14 6 1 [(1,.ptr 0 0),(2,.b_ false)] [lN p_p] 16 22 r1 (Fq p_p r1) fun r2=>
 .sb Tryz.f253 0 [1,0] 20 5 1 [(1,.ptr 0 0),(2,.b_ false)] [lN p_p] 22 27 r2 (Fv p_p r2) fun r3=>
 .sb Tryz.f253 0 [1,0] 25 5 1 [(1,.ptr 0 0),(2,.b_ false)] [lN p_p] 27 32 r3 (Fz p_p r3) fun r4=>
 .sb Tryz.f253 0 [1,0] 30 6 1 [(1,.ptr 0 0),(2,.b_ false)] [lN p_p] 32 38 r4 (FB p_p r4) fun r5=>
 .sb Tryz.f253 0 [1,0] 36 7 1 [(1,.ptr 0 0),(2,.b_ false)] [lN p_p] 38 45 r5 (FC p_p r5) fun r6=>
 .sb Tryz.f253 0 [1,0] 43 6 1 [(1,.ptr 0 0),(2,.b_ false)] [lN p_p] 45 51 r6 (FD p_p r6) fun r7=>
 .sb Tryz.f253 0 [1,0] 49 5 1 [(1,.ptr 0 0),(2,.b_ false)] [lN p_p] 51 56 r7 (FI p_p r7) fun r8=>
 .sk Tryz.f253 0 [1,0] 54 6 1 (fun r_=>⟨[(2,.b_ false),(62,.b_ r_)],[.dead]⟩) ⟨[(1,.ptr 0 0),(2,.b_ false),(56,.b_ r8)],[lN p_p]⟩ (FK p_p r8) fun r9=>
 .sk Tryz.f253 0 [1,0] 60 1 1 (fun r_=>⟨[(2,.b_ r9)],[.dead]⟩) ⟨[(2,.b_ false),(62,.b_ r9)],[.dead]⟩ (jl r9) fun r10=>
 .ret (dK 1) (r9)
def Q14(p_p:aH):Option (Bool):=Mo.den (Xg p_p)
theorem UU(p_p:aH):FV (Q14 p_p) 253 [.dat (aH.lf1 p_p)] .b_:=dS Tryz.func253
def J8(p_x:aK):Mo (Bool):=
 .iG 4003 (decide ((p_x.fName:ByteArray)=(⟨#[]⟩:ByteArray))) (.rt [1,2,10] 1 (p_x.aB==0))<|
 .stop
def J9(p_x:aK)(r0:Bool):Mo (Bool):=
 .iG 4008 (r0) (.nu p_x.iT bG.lf<|
 .rt [1,2,16] 1 ((p_x.iT.length:Int)==0))<|
 .stop
def FM(p_x:aK)(r0:Bool):Mo (Bool):=
 .iG 4014 (r0) (.rt [1,2,21] 1 (!p_x.dP))<|
 .stop
def FN(p_x:aK)(r0:Bool):Mo (Bool):=
 .iG 4019 (r0) (.rt [1,2,26] 1 (!p_x.iy))<|
 .stop
def FP(p_x:aK)(r0:Bool):Mo (Bool):=
 .iG 4024 (r0) (.rt [1,2,31] 1 (!p_x.fO))<|
 .stop
def FQ(p_x:aK)(r0:Bool):Mo (Bool):=
 .iG 4029 (r0) (.cl (UU p_x.aP) fun r1 _=>
 .ret ⟨[.kill 0],[2,36],[],1⟩ (r1))<|
 .stop
def Xh(p_x:aK):Mo (Bool):=
 .sf Tryz.f177 0 [1,0] 0 8 1 [(1,.ptr 0 0),(2,.b_ false)] [qG p_x] 10 (J8 p_x) fun r0=>
 .sb Tryz.f177 0 [1,0] 8 6 1 [(1,.ptr 0 0),(2,.b_ false)] [qG p_x] 10 16 r0 (J9 p_x r0) fun r1=>
 .sb Tryz.f177 0 [1,0] 14 5 1 [(1,.ptr 0 0),(2,.b_ false)] [qG p_x] 16 21 r1 (FM p_x r1) fun r2=>
 .sb Tryz.f177 0 [1,0] 19 5 1 [(1,.ptr 0 0),(2,.b_ false)] [qG p_x] 21 26 r2 (FN p_x r2) fun r3=>
 .sb Tryz.f177 0 [1,0] 24 5 1 [(1,.ptr 0 0),(2,.b_ false)] [qG p_x] 26 31 r3 (FP p_x r3) fun r4=>
 .sk Tryz.f177 0 [1,0] 29 5 1 (fun r_=>⟨[(2,.b_ false),(36,.b_ r_)],[.dead]⟩) ⟨[(1,.ptr 0 0),(2,.b_ false),(31,.b_ r4)],[qG p_x]⟩ (FQ p_x r4) fun r5=>
 .sk Tryz.f177 0 [1,0] 34 1 1 (fun r_=>⟨[(2,.b_ r5)],[.dead]⟩) ⟨[(2,.b_ false),(36,.b_ r5)],[.dead]⟩ (jl r5) fun r6=>
 .ret (dK 1) (r5)
def Q21(p_x:aK):Option (Bool):=Mo.den (Xh p_x)
theorem UW(p_x:aK):FV (Q21 p_x) 177 [.dat (aK.lf1 p_x)] .b_:=dS Tryz.func177
def Ko(p_w:au):Mo (Bool):=
 .iG 4003 (p_w.aB==0) (.rt [1,2,10] 1 (decide ((p_w.fG:ByteArray)=(⟨#[]⟩:ByteArray))))<|
 .stop
def Kq(p_w:au)(r0:Bool):Mo (Bool):=
 .iG 4008 (r0) (.cl (oL p_w.gq) fun r1 _=>
 .rt [1,2,15] 1 (r1))<|
 .stop
def FT(p_w:au)(r0:Bool):Mo (Bool):=
 .iG 4013 (r0) (.cl (oL p_w.bF) fun r1 _=>
 .rt [1,2,20] 1 (r1))<|
 .stop
def FW(p_w:au)(r0:Bool):Mo (Bool):=
 .iG 4018 (r0) (.cl (oL p_w.cO) fun r1 _=>
 .rt [1,2,25] 1 (r1))<|
 .stop
def FX(p_w:au)(r0:Bool):Mo (Bool):=
 .iG 4023 (r0) (.cl (UQ p_w.bJ) fun r1 _=>
 .rt [1,2,30] 1 (r1))<|
 .stop
def FY(p_w:au)(r0:Bool):Mo (Bool):=
 .iG 4028 (r0) (.cl (UW p_w.aG) fun r1 _=>
 .rt [1,2,35] 1 (r1))<|
 .stop
def FZ(p_w:au)(r0:Bool):Mo (Bool):=
 .iG 4033 (r0) (.rt [1,2,40] 1 (decide ((p_w.lI:ByteArray)=(⟨#[]⟩:ByteArray))))<|
 .stop
def F5(p_w:au)(r0:Bool):Mo (Bool):=
 .iG 4038 (r0) (.rt [1,2,45] 1 (p_w.dZ==0))<|
 .stop
def F6(p_w:au)(r0:Bool):Mo (Bool):=
 .iG 4043 (r0) (.nu p_w.dD au.lf<|
 .rt [1,2,51] 1 ((p_w.dD.length:Int)==0))<|
 .stop
def F7(p_w:au)(r0:Bool):Mo (Bool):=
 .iG 4049 (r0) (.nu p_w.dN lfI<|
 .rt [1,2,57] 1 ((p_w.dN.length:Int)==0))<|
 .stop
def F8(p_w:au)(r0:Bool):Mo (Bool):=
 .iG 4055 (r0) (.ret ⟨[.kill 0],[2,62],[],1⟩ (!p_w.fH))<|
 .stop
def Xi(p_w:au):Mo (Bool):=
 .sf Tryz.f109 0 [1,0] 0 8 1 [(1,.ptr 0 0),(2,.b_ false)] [cZ p_w] 10 (Ko p_w) fun r0=>
 .sb Tryz.f109 0 [1,0] 8 5 1 [(1,.ptr 0 0),(2,.b_ false)] [cZ p_w] 10 15 r0 (Kq p_w r0) fun r1=>
 .sb Tryz.f109 0 [1,0] 13 5 1 [(1,.ptr 0 0),(2,.b_ false)] [cZ p_w] 15 20 r1 (FT p_w r1) fun r2=>
 .sb Tryz.f109 0 [1,0] 18 5 1 [(1,.ptr 0 0),(2,.b_ false)] [cZ p_w] 20 25 r2 (FW p_w r2) fun r3=>
 .sb Tryz.f109 0 [1,0] 23 5 1 [(1,.ptr 0 0),(2,.b_ false)] [cZ p_w] 25 30 r3 (FX p_w r3) fun r4=>
 .sb Tryz.f109 0 [1,0] 28 5 1 [(1,.ptr 0 0),(2,.b_ false)] [cZ p_w] 30 35 r4 (FY p_w r4) fun r5=>
 .sb Tryz.f109 0 [1,0] 33 5 1 [(1,.ptr 0 0),(2,.b_ false)] [cZ p_w] 35 40 r5 (FZ p_w r5) fun r6=>
 .sb Tryz.f109 0 [1,0] 38 5 1 [(1,.ptr 0 0),(2,.b_ false)] [cZ p_w] 40 45 r6 (F5 p_w r6) fun r7=>
 .sb Tryz.f109 0 [1,0] 43 6 1 [(1,.ptr 0 0),(2,.b_ false)] [cZ p_w] 45 51 r7 (F6 p_w r7) fun r8=>
 .sb Tryz.f109 0 [1,0] 49 6 1 [(1,.ptr 0 0),(2,.b_ false)] [cZ p_w] 51 57 r8 (F7 p_w r8) fun r9=>
 .sk Tryz.f109 0 [1,0] 55 5 1 (fun r_=>⟨[(2,.b_ false),(62,.b_ r_)],[.dead]⟩) ⟨[(1,.ptr 0 0),(2,.b_ false),(57,.b_ r9)],[cZ p_w]⟩ (F8 p_w r9) fun r10=>
 .sk Tryz.f109 0 [1,0] 60 1 1 (fun r_=>⟨[(2,.b_ r10)],[.dead]⟩) ⟨[(2,.b_ false),(62,.b_ r10)],[.dead]⟩ (jl r10) fun r11=>
 .ret (dK 1) (r10)
def Q10(p_w:au):Option (Bool):=Mo.den (Xi p_w)
theorem UY(p_w:au):FV (Q10 p_w) 109 [.dat (au.lf1 p_w)] .b_:=dS Tryz.func109
def Kr(p_w:au)(r0:aF):Mo (au):=
 .iB (r0.o9) (.rt [1,3] 2 (au.Ji (au.uP p_w 0) ⟨#[]⟩))<|
 .rt [1,3] 2 (au.uP p_w 0)
def Kt(r0:aF)(r1:au):Mo (au):=
 .iB (r0.Bg) (.ret ⟨[.norm 0],[1,3],[],2⟩ (au.OY (au.OX (au.WQ r1 (aj.mk 0 0 ⟨#[]⟩ [] [])) (aj.mk 0 0 ⟨#[]⟩ [] [])) false))<|
 .rt [1,3] 2 (r1)
def F9(r0:aF)(r1:au):Mo (au):=
 .iB (r0.Jh) (.ret ⟨[.norm 0],[1,3],[],2⟩ (au.WR r1 (aj.mk 0 0 ⟨#[]⟩ [] [])))<|
 .rt [1,3] 2 (r1)
def Gf(r0:aF)(r1:au):Mo (au):=
 .iB (r0.ER) (.stop)<|
 .rt [1,3] 2 (r1)
def Gg(r0:aF)(r1:au):Mo (au):=
 .iB (r0.pq) (.stop)<|
 .rt [1,3] 2 (r1)
def Gi(r0:aF)(r1:au):Mo (au):=
 .iB (r0.iP) (.stop)<|
 .rt [1,3] 2 (r1)
def Gj(r0:aF)(r1:au):Mo (au):=
 .iB (r0.Bh) (.stop)<|
 .rt [1,3] 2 (r1)
def Gl(r0:aF)(r1:au):Mo (au):=
 .iB (r0.nG) (.stop)<|
 .rt [1,3] 2 (r1)
def Gm(r0:aF)(r1:au):Mo (au):=
 .iB (r0.kS) (.stop)<|
 .rt [1,3] 2 (r1)
def Gn(r0:aF)(r1:au):Mo (au):=
 .iB (r0.kT) (.stop)<|
 .rt [1] 2 (r1)
def Xj(p_w:au):Mo (Bool):=
 .cl (DC p_w.aB) fun r0 _=>
 .jk Tryz.f57 0 [1,1,1,0,1] 1 (fun r_=>⟨[(1,.ptr 0 0),(3,.ptr 1 0)],[cZ r_,.box 104 (.agg ((aF.lf1 r0).map AV.lf))]⟩) ⟨[(1,.ptr 0 0),(3,.ptr 1 0),(9,.b_ r0.o9)],[.box 49 (.dat (au.lf1 (au.uP p_w 0))),.box 104 (.agg ((aF.lf1 r0).map AV.lf))]⟩ (Kr p_w r0) fun r1=>
 .jk Tryz.f57 0 [1,1,1,1,0,1] 1 (fun r_=>⟨[(1,.ptr 0 0),(3,.ptr 1 0)],[cZ r_,.box 104 (.agg ((aF.lf1 r0).map AV.lf))]⟩) ⟨[(1,.ptr 0 0),(3,.ptr 1 0),(12,.b_ r0.Bg)],[cZ r1,.box 104 (.agg ((aF.lf1 r0).map AV.lf))]⟩ (Kt r0 r1) fun r2=>
 .jk Tryz.f57 0 [1,1,1,1,1,0,1] 1 (fun r_=>⟨[(1,.ptr 0 0),(3,.ptr 1 0)],[cZ r_,.box 104 (.agg ((aF.lf1 r0).map AV.lf))]⟩) ⟨[(1,.ptr 0 0),(3,.ptr 1 0),(19,.b_ r0.Jh)],[cZ r2,.box 104 (.agg ((aF.lf1 r0).map AV.lf))]⟩ (F9 r0 r2) fun r3=>
 .jk Tryz.f57 0 [1,1,1,1,1,1,0,1] 1 (fun r_=>⟨[(1,.ptr 0 0),(3,.ptr 1 0)],[cZ r_,.box 104 (.agg ((aF.lf1 r0).map AV.lf))]⟩) ⟨[(1,.ptr 0 0),(3,.ptr 1 0),(23,.b_ r0.ER)],[cZ r3,.box 104 (.agg ((aF.lf1 r0).map AV.lf))]⟩ (Gf r0 r3) fun r4=>
 .jk Tryz.f57 0 [1,1,1,1,1,1,1,0,1] 1 (fun r_=>⟨[(1,.ptr 0 0),(3,.ptr 1 0)],[cZ r_,.box 104 (.agg ((aF.lf1 r0).map AV.lf))]⟩) ⟨[(1,.ptr 0 0),(3,.ptr 1 0),(27,.b_ r0.pq)],[cZ r4,.box 104 (.agg ((aF.lf1 r0).map AV.lf))]⟩ (Gg r0 r4) fun r5=>
 .jk Tryz.f57 0 [1,1,1,1,1,1,1,1,0,1] 1 (fun r_=>⟨[(1,.ptr 0 0),(3,.ptr 1 0)],[cZ r_,.box 104 (.agg ((aF.lf1 r0).map AV.lf))]⟩) ⟨[(1,.ptr 0 0),(3,.ptr 1 0),(31,.b_ r0.iP)],[cZ r5,.box 104 (.agg ((aF.lf1 r0).map AV.lf))]⟩ (Gi r0 r5) fun r6=>
 .jk Tryz.f57 0 [1,1,1,1,1,1,1,1,1,0,1] 1 (fun r_=>⟨[(1,.ptr 0 0),(3,.ptr 1 0)],[cZ r_,.box 104 (.agg ((aF.lf1 r0).map AV.lf))]⟩) ⟨[(1,.ptr 0 0),(3,.ptr 1 0),(35,.b_ r0.Bh)],[cZ r6,.box 104 (.agg ((aF.lf1 r0).map AV.lf))]⟩ (Gj r0 r6) fun r7=>
 .jk Tryz.f57 0 [1,1,1,1,1,1,1,1,1,1,0,1] 1 (fun r_=>⟨[(1,.ptr 0 0),(3,.ptr 1 0)],[cZ r_,.box 104 (.agg ((aF.lf1 r0).map AV.lf))]⟩) ⟨[(1,.ptr 0 0),(3,.ptr 1 0),(38,.b_ r0.nG)],[cZ r7,.box 104 (.agg ((aF.lf1 r0).map AV.lf))]⟩ (Gl r0 r7) fun r8=>
 .jk Tryz.f57 0 [1,1,1,1,1,1,1,1,1,1,1,0,1] 1 (fun r_=>⟨[(1,.ptr 0 0),(3,.ptr 1 0)],[cZ r_,.box 104 (.agg ((aF.lf1 r0).map AV.lf))]⟩) ⟨[(1,.ptr 0 0),(3,.ptr 1 0),(41,.b_ r0.kS)],[cZ r8,.box 104 (.agg ((aF.lf1 r0).map AV.lf))]⟩ (Gm r0 r8) fun r9=>
 .jy [.kill 1] Tryz.f57 0 [1,1,1,1,1,1,1,1,1,1,1,1,0,1] 1 (.normal) (fun r_=>⟨[(1,.ptr 0 0)],[cZ r_,.dead]⟩) ⟨[(1,.ptr 0 0),(44,.b_ r0.kT)],[cZ r9,.dead]⟩ (Gn r0 r9) fun r10=>
 .cl (UY r10) fun r11 _=>
 .ret (dK 1) (r11)
def Q15(p_w:au):Option (Bool):=Mo.den (Xj p_w)
theorem UZ(p_w:au):FV (Q15 p_w) 57 [.dat (au.lf1 p_w)] .b_:=dS Tryz.func57
abbrev BU(m:aj→Int→Option (Int)):Prop:=∀p_v p_most,FV (m p_v p_most) 274 [.dat (aj.lf1 p_v),.i_ p_most] .i_
abbrev Ku(m:aj→Int→Int→Option (Int×Int)):Prop:=∀p_v p_b0 p_b1,FH (m p_v p_b0 p_b1) 323 [.dat (aj.lf1 p_v),.clo 324 [.ptr 0 0,.ptr 1 0]] [.box 3 (.dat [(.int .i64 p_b0)]),.box 3 (.dat [(.int .i64 p_b1)])] (fun _=>.tup []) (fun r=>[.box 3 (.dat [(.int .i64 r.1)]),.box 3 (.dat [(.int .i64 r.2)])])
abbrev Kv(m:aj→Int→Int→Option (Bool×Int×Int)):Prop:=∀p_p p_b0 p_b1,FH (m p_p p_b0 p_b1) 324 [.dat (aj.lf1 p_p),.ptr 0 0,.ptr 1 0] [.box 3 (.dat [(.int .i64 p_b0)]),.box 3 (.dat [(.int .i64 p_b1)])] (fun r=>.b_ r.1) (fun r=>[.box 3 (.dat [(.int .i64 r.2.1)]),.box 3 (.dat [(.int .i64 r.2.2)])])
structure RB2 where
 m1:(p_v:aj)→(p_most:Int)→Option (Int)
 ok1:BU m1
 m2:(p_v:aj)→(p_b0:Int)→(p_b1:Int)→Option (Int×Int)
 ok2:Ku m2
 m3:(p_p:aj)→(p_b0:Int)→(p_b1:Int)→Option (Bool×Int×Int)
 ok3:Kv m3
def Kw(R_:RB2)(p_v:aj)(p_most:Int):Mo (Int):=
 .iB (1==p_most) (.stop)<|
 .cH [2,1] (R_.ok2 p_v 1 p_most) fun r0 _=>
 .ret (dK 1) (r0.1)
theorem Ky(R_:RB2):BU fun p_v p_most=>Mo.den (Kw R_ p_v p_most):=fun _ _=>dS Tryz.func274
def zY(R_:RB2)(p_v:aj):(Int×Int×Int)→Mo ((Int×Int×Int)⊕(Int×Int)⊕(Int×Int)):=fun(v0,v1,v2)=>
 .iB (decide ((v0:Int)<(p_v.bF.length:Int))) (.gx aA.dw p_v.bF v0 fun x0 _=>
 .say [.at_ 26 3,.tod 35] ok0<|
 .cH [0,1] (R_.ok3 x0.fValue v1 v2) fun r0 _=>
 .iB (!r0.1) (.stop)<|
 .rt [1,27,28,29] 3 (.inl (IntKind.wrap .i64 (v0+1),r0.2.1,r0.2.2)))<|
 .rt [] 3 (.inr (.inr ((v1,v2))))
def Kz(R_:RB2)(p_v:aj)(v0:Int)(v1:Int)(v2:Int):Option ((Int×Int)⊕(Int×Int)):=jH (fun v_=>(zY R_ p_v v_).den) FU (v0,v1,v2)
def zZ(R_:RB2)(p_v:aj):(Int×Int×Int)→St:=fun(v0,v1,v2)=>⟨[(1,.clo 324 [.ptr 0 0,.ptr 1 0]),(27,.lf (.rows 6 (p_v.bF.map aA.lf))),(28,.i_ (p_v.bF.length:Int)),(29,.i_ v0)],[.box 3 (.dat [(.int .i64 v1)]),.box 3 (.dat [(.int .i64 v2)]),.dead]⟩
def kH(r_:(Int×Int)⊕(Int×Int)):Exit:=match r_ with
 |.inl o_=>.ret
 |.inr (o_)=>.exit 3
def jm  (r_:(Int×Int)⊕(Int×Int)):St:=match r_ with
 |.inl o_=>⟨[],[.box 3 (.dat [(.int .i64 o_.1)]),.box 3 (.dat [(.int .i64 o_.2)]),.dead]⟩
 |.inr (o_)=>⟨[],[.box 3 (.dat [(.int .i64 o_.1)]),.box 3 (.dat [(.int .i64 o_.2)]),.dead]⟩
theorem KA{R_:RB2}{p_v:aj}{v0:Int}{v1:Int}{v2:Int}{r_:(Int×Int)⊕(Int×Int)}(h:Kz R_ p_v v0 v1 v2=some r_):pG Tryz.f323 2 [1,1,0,1,1,1,0,1,0] (kH r_) (jm r_) (zZ R_ p_v (v0,v1,v2)):=
 kU jw (body:=(Code.sub (bodyC Tryz.f323) [1,1,0,1,1,1,0,1,0,0])) (by kernel_rfl) (zY R_ p_v) (zZ R_ p_v) kH jm (fun r_=>by rcases r_ with _|_<;>rfl) (fun v_=>by kernel_rfl) h
def RU(R_:RB2)(p_v:aj)(p_b0:Int)(p_b1:Int):Mo (Int×Int):=
 .iB (p_v.aB==6) (.stop)<|
 .iB (p_v.aB==5) (.nu p_v.bF aA.lf<|
 .ask2 (Kz R_ p_v 0 p_b0 p_b1) (fun _ _=>
 .stop) fun o0 h0=>
 .say [.part [.kill 2] 0 [1,27,28,29] 3 (kH (.inr (o0))) (jm (.inr (o0))).T (jm (.inr (o0))).H] (ok1 (KA h0))<|
 .rt [] 2 (o0.1,o0.2))<|
 .ret ⟨[.kill 2],[],[],2⟩ (p_b0,p_b1)
theorem PW(R_:RB2):Ku fun p_v p_b0 p_b1=>Mo.den (RU R_ p_v p_b0 p_b1):=fun _ _ _=>dA Tryz.func323
def KC(R_:RB2)(p_p:aj)(p_b0:Int)(p_b1:Int):Mo (Bool×Int×Int):=
 .say [.order [(true,0),(true,1),(true,2),(true,3),(true,4),(false,5),(true,6),(false,7)] (some 7) []] ok0<|
 .cl (R_.ok1 p_p (IntKind.wrap .i64 (p_b1-p_b0))) fun r0 _=>
 .ret ⟨[.kill 2],[0],[],2⟩ (decide ((IntKind.wrap .i64 (p_b0+r0):Int)<p_b1),IntKind.wrap .i64 (p_b0+r0),p_b1)
theorem KD(R_:RB2):Kv fun p_p p_b0 p_b1=>Mo.den (KC R_ p_p p_b0 p_b1):=fun _ _ _=>dA Tryz.func324
def qH:Nat→RB2
 |0=>{ m1:=fun p_v p_most=>none,ok1:=fun _ _ _ h=>(by cases h),m2:=fun p_v p_b0 p_b1=>none,ok2:=fun _ _ _ _ h=>(by cases h),m3:=fun p_p p_b0 p_b1=>none,ok3:=fun _ _ _ _ h=>(by cases h) }
 |n_+1=>{ m1:=fun p_v p_most=>Mo.den (Kw (qH n_) p_v p_most),ok1:=Ky (qH n_),m2:=fun p_v p_b0 p_b1=>Mo.den (RU (qH n_) p_v p_b0 p_b1),ok2:=PW (qH n_),m3:=fun p_p p_b0 p_b1=>Mo.den (KC (qH n_) p_p p_b0 p_b1),ok3:=KD (qH n_) }
def YB(p_v:aj)(p_most:Int):Option (Int):=(qH FU).m1 p_v p_most
theorem PX:BU YB:=(qH FU).ok1
def U0(p_v:aj):Mo (Int):=
 .cl (PX p_v 1025) fun r0 _=>
 .ret (dK 1) (r0)
def YC(p_v:aj):Option (Int):=Mo.den (U0 p_v)
theorem PY(p_v:aj):FV (YC p_v) 203 [.dat (aj.lf1 p_v)] .i_:=dS Tryz.func203
abbrev BX(m:aj→Int→Option (Int)):Prop:=∀p_v p_most,FV (m p_v p_most) 275 [.dat (aj.lf1 p_v),.i_ p_most] .i_
abbrev KE(m:aj→Int→Int→Option (Int×Int)):Prop:=∀p_v p_b0 p_b1,FH (m p_v p_b0 p_b1) 323 [.dat (aj.lf1 p_v),.clo 325 [.ptr 0 0,.ptr 1 0]] [.box 3 (.dat [(.int .i64 p_b0)]),.box 3 (.dat [(.int .i64 p_b1)])] (fun _=>.tup []) (fun r=>[.box 3 (.dat [(.int .i64 r.1)]),.box 3 (.dat [(.int .i64 r.2)])])
abbrev KF(m:aj→Int→Int→Option (Bool×Int×Int)):Prop:=∀p_p p_b0 p_b1,FH (m p_p p_b0 p_b1) 325 [.dat (aj.lf1 p_p),.ptr 0 0,.ptr 1 0] [.box 3 (.dat [(.int .i64 p_b0)]),.box 3 (.dat [(.int .i64 p_b1)])] (fun r=>.b_ r.1) (fun r=>[.box 3 (.dat [(.int .i64 r.2.1)]),.box 3 (.dat [(.int .i64 r.2.2)])])
structure RB3 where
 m1:(p_v:aj)→(p_most:Int)→Option (Int)
 ok1:BX m1
 m2:(p_v:aj)→(p_b0:Int)→(p_b1:Int)→Option (Int×Int)
 ok2:KE m2
 m3:(p_p:aj)→(p_b0:Int)→(p_b1:Int)→Option (Bool×Int×Int)
 ok3:KF m3
def KG(R_:RB3)(p_v:aj)(p_most:Int):Mo (Int):=
 .iB (p_most==1) (.stop)<|
 .cH [2,1] (R_.ok2 p_v 0 p_most) fun r0 _=>
 .ret (dK 1) (IntKind.wrap .i64 (1+r0.1))
theorem KH(R_:RB3):BX fun p_v p_most=>Mo.den (KG R_ p_v p_most):=fun _ _=>dS Tryz.func275
def Aa(R_:RB3)(p_v:aj):(Int×Int×Int)→Mo ((Int×Int×Int)⊕(Int×Int)⊕(Int×Int)):=fun(v0,v1,v2)=>
 .iB (decide ((v0:Int)<(p_v.bF.length:Int))) (.gx aA.dw p_v.bF v0 fun x0 _=>
 .say [.at_ 26 3,.tod 35] ok0<|
 .cH [0,1] (R_.ok3 x0.fValue v1 v2) fun r0 _=>
 .iB (!r0.1) (.stop)<|
 .rt [1,27,28,29] 3 (.inl (IntKind.wrap .i64 (v0+1),r0.2.1,r0.2.2)))<|
 .rt [] 3 (.inr (.inr ((v1,v2))))
def KI(R_:RB3)(p_v:aj)(v0:Int)(v1:Int)(v2:Int):Option ((Int×Int)⊕(Int×Int)):=jH (fun v_=>(Aa R_ p_v v_).den) FU (v0,v1,v2)
def Ac(R_:RB3)(p_v:aj):(Int×Int×Int)→St:=fun(v0,v1,v2)=>⟨[(1,.clo 325 [.ptr 0 0,.ptr 1 0]),(27,.lf (.rows 6 (p_v.bF.map aA.lf))),(28,.i_ (p_v.bF.length:Int)),(29,.i_ v0)],[.box 3 (.dat [(.int .i64 v1)]),.box 3 (.dat [(.int .i64 v2)]),.dead]⟩
theorem KJ{R_:RB3}{p_v:aj}{v0:Int}{v1:Int}{v2:Int}{r_:(Int×Int)⊕(Int×Int)}(h:KI R_ p_v v0 v1 v2=some r_):pG Tryz.f323 2 [1,1,0,1,1,1,0,1,0] (kH r_) (jm r_) (Ac R_ p_v (v0,v1,v2)):=
 kU jw (body:=(Code.sub (bodyC Tryz.f323) [1,1,0,1,1,1,0,1,0,0])) (by kernel_rfl) (Aa R_ p_v) (Ac R_ p_v) kH jm (fun r_=>by rcases r_ with _|_<;>rfl) (fun v_=>by kernel_rfl) h
def RV(R_:RB3)(p_v:aj)(p_b0:Int)(p_b1:Int):Mo (Int×Int):=
 .iB (p_v.aB==6) (.stop)<|
 .iB (p_v.aB==5) (.nu p_v.bF aA.lf<|
 .ask2 (KI R_ p_v 0 p_b0 p_b1) (fun _ _=>
 .stop) fun o0 h0=>
 .say [.part [.kill 2] 0 [1,27,28,29] 3 (kH (.inr (o0))) (jm (.inr (o0))).T (jm (.inr (o0))).H] (ok1 (KJ h0))<|
 .rt [] 2 (o0.1,o0.2))<|
 .ret ⟨[.kill 2],[],[],2⟩ (p_b0,p_b1)
theorem PZ(R_:RB3):KE fun p_v p_b0 p_b1=>Mo.den (RV R_ p_v p_b0 p_b1):=fun _ _ _=>dA Tryz.func323
def KL(R_:RB3)(p_p:aj)(p_b0:Int)(p_b1:Int):Mo (Bool×Int×Int):=
 .say [.order [(true,0),(true,1),(true,2),(true,3),(false,4),(true,5),(false,6)] (some 6) []] ok0<|
 .cl (R_.ok1 p_p (IntKind.wrap .i64 (p_b1-1))) fun r0 _=>
 .ret ⟨[.kill 2],[0],[],2⟩ (decide (((if r0 > p_b0 then r0 else p_b0):Int)<(IntKind.wrap .i64 (p_b1-1))),(if r0 > p_b0 then r0 else p_b0),p_b1)
theorem KN(R_:RB3):KF fun p_p p_b0 p_b1=>Mo.den (KL R_ p_p p_b0 p_b1):=fun _ _ _=>dA Tryz.func325
def qI:Nat→RB3
 |0=>{ m1:=fun p_v p_most=>none,ok1:=fun _ _ _ h=>(by cases h),m2:=fun p_v p_b0 p_b1=>none,ok2:=fun _ _ _ _ h=>(by cases h),m3:=fun p_p p_b0 p_b1=>none,ok3:=fun _ _ _ _ h=>(by cases h) }
 |n_+1=>{ m1:=fun p_v p_most=>Mo.den (KG (qI n_) p_v p_most),ok1:=KH (qI n_),m2:=fun p_v p_b0 p_b1=>Mo.den (RV (qI n_) p_v p_b0 p_b1),ok2:=PZ (qI n_),m3:=fun p_p p_b0 p_b1=>Mo.den (KL (qI n_) p_p p_b0 p_b1),ok3:=KN (qI n_) }
def YD(p_v:aj)(p_most:Int):Option (Int):=(qI FU).m1 p_v p_most
theorem P5:BX YD:=(qI FU).ok1
def U1(p_v:aj):Mo (Int):=
 .cl (P5 p_v 17) fun r0 _=>
 .ret (dK 1) (r0)
def YE(p_v:aj):Option (Int):=Mo.den (U1 p_v)
theorem P6(p_v:aj):FV (YE p_v) 204 [.dat (aj.lf1 p_v)] .i_:=dS Tryz.func204
def vF(p_s:ByteArray):(Int)→Mo ((Int)⊕(Unit⊕Unit)):=fun(v0)=>
 .iB (decide ((v0:Int)<(p_s.size:Int))) (.sf Tryz.f327 0 [1,1,0,1,0,0,1,1,0,0,1,0] 0 10 6 [(0,.lf (.str p_s)),(3,.i_ v0),(18,.i_ (p_s.size:Int)),(19,.i_ v0)] [] 31 (zV p_s v0) fun r0=>
 .sk Tryz.f327 0 [1,1,0,1,0,0,1,1,0,0,1,0] 10 6 6 (fun r_=>⟨[(0,.lf (.str p_s)),(18,.i_ (p_s.size:Int)),(19,.i_ v0),(37,.b_ r_)],[]⟩) ⟨[(0,.lf (.str p_s)),(3,.i_ v0),(18,.i_ (p_s.size:Int)),(19,.i_ v0),(31,.b_ r0)],[]⟩ (zW p_s r0 v0) fun r1=>
 .iB (r1) (.stop)<|
 .rt [0,18,19] 0 (.inl (IntKind.wrap .i64 (v0+1))))<|
 .rt [] 0 (.inr (.inr (())))
def DF(p_s:ByteArray)(v0:Int):Option (Unit⊕Unit):=jH (fun v_=>(vF p_s v_).den) FU (v0)
theorem Gp{p_s:ByteArray}{v0:Int}{r_:Unit⊕Unit}(h:DF p_s v0=some r_):pG Tryz.f327 0 [1,1,0,1,0] (iV r_) (kG r_) (oK p_s (v0)):=
 kU jw (body:=(Code.sub (bodyC Tryz.f327) [1,1,0,1,0,0])) (by kernel_rfl) (vF p_s) (oK p_s) iV kG (fun r_=>by rcases r_ with _|_<;>rfl) (fun v_=>by kernel_rfl) h
def Xk(p_s:ByteArray):Mo (Bool):=
 .sf Tryz.f327 0 [1,0,0] 0 8 1 [(0,.lf (.str p_s))] [] 11 (Dy p_s) fun r0=>
 .sb Tryz.f327 0 [1,0,0] 8 5 1 [(0,.lf (.str p_s))] [] 11 16 r0 (Dz p_s r0) fun r1=>
 .iB (r1) (.stop)<|
 .ask2 (DF p_s 0) (fun _ _=>
 .stop) fun o0 h0=>
 .say [.pt_ 0 [0,18,19] 0 (iV (.inr (o0))) (kG (.inr (o0)))] (ok1 (Gp h0))<|
 .ret (dK 1) (true)
def Q55(p_s:ByteArray):Option (Bool):=Mo.den (Xk p_s)
theorem U2(p_s:ByteArray):FV (Q55 p_s) 327 [.lf (.str p_s)] .b_:=dS Tryz.func327
abbrev BZ(m:aj→Option (Bool)):Prop:=∀p_v,FV (m p_v) 205 [.dat (aj.lf1 p_v)] .b_
abbrev KO(m:(List aA)→Option (Bool)):Prop:=∀p_l,FV (m p_l) 277 [.lf (.rows 6 (p_l.map aA.lf))] .b_
structure RB4 where
 m1:(p_v:aj)→Option (Bool)
 ok1:BZ m1
 m2:(p_l:List aA)→Option (Bool)
 ok2:KO m2
def KP(R_:RB4)(p_v:aj):Mo (Bool):=
 .oV 4003 (p_v.aB==3) [1,14] 1 (p_v.aB==9)
def KQ(R_:RB4)(p_v:aj)(r0:Bool):Mo (Bool):=
 .oV 4008 (r0) [1,19] 1 (p_v.aB==10)
def Gq(R_:RB4)(p_v:aj)(r0:Bool):Mo (Unit):=
 .rt [1,3] 1 ()
def Gs(R_:RB4)(p_v:aj)(r0:Bool):Mo (Bool):=
 .oV 6003 (p_v.aB==4) [1,3,27] 1 (p_v.aB==7)
def Gt(R_:RB4)(p_v:aj)(r0:Bool)(r1:Bool):Mo (Bool):=
 .oV 6008 (r1) [1,3,32] 1 (p_v.aB==8)
def Gu(R_:RB4)(p_v:aj)(r0:Bool)(r1:Bool):Mo (Unit):=
 .rt [1,3,4] 1 ()
def Gv(R_:RB4)(p_v:aj)(r0:Bool)(r1:Bool):Mo (Bool):=
 .aV 8002 (!r0) [1,4,39] 1 (p_v.dY != 0)
def Gw(R_:RB4)(p_v:aj)(r0:Bool)(r1:Bool):Mo (Bool):=
 .iG 8007 (r1) (.stop)<|
 .aV 8010 (!r0) [1,48] 1 (!decide ((p_v.fText:ByteArray)=(⟨#[]⟩:ByteArray)))
def Gx(R_:RB4)(p_v:aj):Mo (Bool):=
 .iG 12003 (p_v.aB != 6) (.nu p_v.dM aj.lf<|
 .rt [1,57] 1 (decide ((0:Int)<(p_v.dM.length:Int))))<|
 .stop
def Gy(R_:RB4)(p_v:aj)(r0:Bool):Mo (Bool):=
 .iG 12009 (r0) (.stop)<|
 .iG 12013 (p_v.aB != 5) (.nu p_v.bF aA.lf<|
 .rt [1,68] 1 (decide ((0:Int)<(p_v.bF.length:Int))))<|
 .rt [1,68] 1 (false)
def Gz(R_:RB4)(p_v:aj):Mo (Bool):=
 .iB (p_v.aB==1) (.stop)<|
 .iB (p_v.aB==2) (.stop)<|
 .iB (p_v.aB==11) (.stop)<|
 .rt [1,70,71] 1 (p_v.aB==3)
def GH(R_:RB4)(p_v:aj):Mo (Bool):=
 .iG 38004 (decide (((p_v.fText.size:Int):Int)≤4096)) (.cl (PN p_v.fText) fun r0 _=>
 .ret ⟨[.kill 0],[2],[],1⟩ (r0))<|
 .stop
def RX(R_:RB4)(p_v:aj):Mo (Bool):=
 .sf Tryz.f205 0 [1,0] 0 8 1 [(1,.ptr 0 0)] [bV p_v] 14 (KP R_ p_v) fun r0=>
 .sb Tryz.f205 0 [1,0] 8 5 1 [(1,.ptr 0 0)] [bV p_v] 14 19 r0 (KQ R_ p_v r0) fun r1=>
 .sk Tryz.f205 0 [1,0] 13 1 1 (fun r_=>⟨[(1,.ptr 0 0),(3,.b_ r1)],[bV p_v]⟩) ⟨[(1,.ptr 0 0),(19,.b_ r1)],[bV p_v]⟩ (Gq R_ p_v r1) fun r2=>
 .sf Tryz.f205 0 [1,1,0] 0 8 2 [(1,.ptr 0 0),(3,.b_ r1)] [bV p_v] 27 (Gs R_ p_v r1) fun r3=>
 .sb Tryz.f205 0 [1,1,0] 8 5 2 [(1,.ptr 0 0),(3,.b_ r1)] [bV p_v] 27 32 r3 (Gt R_ p_v r1 r3) fun r4=>
 .sk Tryz.f205 0 [1,1,0] 13 1 2 (fun r_=>⟨[(1,.ptr 0 0),(3,.b_ r1),(4,.b_ r4)],[bV p_v]⟩) ⟨[(1,.ptr 0 0),(3,.b_ r1),(32,.b_ r4)],[bV p_v]⟩ (Gu R_ p_v r1 r4) fun r5=>
 .sk Tryz.f205 0 [1,1,1,0,0] 0 7 3 (fun r_=>⟨[(1,.ptr 0 0),(4,.b_ r4),(39,.b_ r_)],[bV p_v]⟩) ⟨[(1,.ptr 0 0),(3,.b_ r1),(4,.b_ r4)],[bV p_v]⟩ (Gv R_ p_v r1 r4) fun r6=>
 .sk Tryz.f205 0 [1,1,1,0,0] 7 9 3 (fun r_=>⟨[(1,.ptr 0 0),(48,.b_ r_)],[bV p_v]⟩) ⟨[(1,.ptr 0 0),(4,.b_ r4),(39,.b_ r6)],[bV p_v]⟩ (Gw R_ p_v r4 r6) fun r7=>
 .iB (r7) (.stop)<|
 .sf Tryz.f205 0 [1,1,1,1,0,0] 0 9 5 [(1,.ptr 0 0)] [bV p_v] 57 (Gx R_ p_v) fun r8=>
 .sb Tryz.f205 0 [1,1,1,1,0,0] 9 11 5 [(1,.ptr 0 0)] [bV p_v] 57 68 r8 (Gy R_ p_v r8) fun r9=>
 .iB (r9) (.stop)<|
 .jk Tryz.f205 0 [1,1,1,1,1,0,1,0,0,1] 1 (fun r_=>⟨[(1,.ptr 0 0),(70,.i_ p_v.aB),(71,.b_ r_)],[bV p_v]⟩) ⟨[(1,.ptr 0 0),(70,.i_ p_v.aB),(71,.lf (.bool (p_v.aB==1)))],[bV p_v]⟩ (Gz R_ p_v) fun r10=>
 .iB (r10) (.ret (dK 1) (true))<|
 .iB (p_v.aB==9) (.stop)<|
 .iB (p_v.aB==10) (.stop)<|
 .iB (p_v.aB==4) (.jk Tryz.f205 0 [1,1,1,1,1,0,1,0,1,1,1,1,1,1,1,0,0] 43 (fun r_=>⟨[(2,.b_ r_)],[.dead]⟩) ⟨[(1,.ptr 0 0)],[bV p_v]⟩ (GH R_ p_v) fun r11=>
 .ret (dK 1) (r11))<|
 .iB (p_v.aB==7) (.stop)<|
 .iB (p_v.aB==8) (.stop)<|
 .iB (p_v.aB==6) (.stop)<|
 .iB (p_v.aB==5) (.cl (R_.ok2 p_v.bF) fun r12 _=>
 .ret (dK 1) (r12))<|
 .stop
theorem P7(R_:RB4):BZ fun p_v=>Mo.den (RX R_ p_v):=fun _=>dS Tryz.func205
def KR(R_:RB4)(m1648:List (ByteArray×Bool))(p_l:List aA)(v0:Int)(x0:aA):Mo (Bool):=
 .cl (U2 x0.fName) fun r0 _=>
 .iG 12004 (!r0) (.stop)<|
 .say [.row [.bool (ET m1648 x0.fName false)]] (okc (rfl:Tryz.prog=Tryz.prog) (ok1 (Jm _ _ _:jG (m1648.map mvB) x0.fName (.bool false)=(.bool (ET m1648 x0.fName false)))))<|
 .rt [3,5,7,8,9,22] 2 (ET m1648 x0.fName false)
def KT(R_:RB4)(m1648:List (ByteArray×Bool))(p_l:List aA)(r0:Bool)(v0:Int)(x0:aA):Mo (Bool):=
 .iG 12010 (r0) (.stop)<|
 .cl (R_.ok1 x0.fValue) fun r1 _=>
 .rt [3,5,7,8,9,28] 2 (!r1)
def vG(R_:RB4)(p_l:List aA):(Int×(List (ByteArray×Bool)))→Mo ((Int×(List (ByteArray×Bool)))⊕(Unit⊕Unit)):=fun(v0,m1648)=>
 .iB (decide ((v0:Int)<(p_l.length:Int))) (.gx aA.dw p_l v0 fun x0 _=>
 .sf Tryz.f277 0 [1,1,0,1,0,0,1,1,0,0,1,0,0] 0 10 5 [(3,.mp 0),(5,.ptr 1 0),(7,.lf (.rows 6 (p_l.map aA.lf))),(8,.i_ (p_l.length:Int)),(9,.i_ v0)] [.map Tryz.prog 9 4 (m1648.map mvB),.box 115 (.agg ((aA.lf1 x0).map AV.lf))] 22 (KR R_ m1648 p_l v0 x0) fun r0=>
 .sb Tryz.f277 0 [1,1,0,1,0,0,1,1,0,0,1,0,0] 10 6 5 [(3,.mp 0),(5,.ptr 1 0),(7,.lf (.rows 6 (p_l.map aA.lf))),(8,.i_ (p_l.length:Int)),(9,.i_ v0)] [.map Tryz.prog 9 4 (m1648.map mvB),.box 115 (.agg ((aA.lf1 x0).map AV.lf))] 22 28 r0 (KT R_ m1648 p_l r0 v0 x0) fun r1=>
 .iB (r1) (.stop)<|
 .say [] (ok1 (rfl:Tryz.prog=Tryz.prog))<|
 .grd (m1648.length<maxLen) fun h0=>
 .say [] (ok1 (by simpa using h0:(m1648.map mvB).length<maxLen))<|
 .rt [3,7,8,9] 1 (.inl (IntKind.wrap .i64 (v0+1),(x0.fName,true)::m1648)))<|
 .ret ⟨[.kill 0],[],[],1⟩ (.inr (.inr (())))
def DI(R_:RB4)(p_l:List aA)(v0:Int)(m1648:List (ByteArray×Bool)):Option (Unit⊕Unit):=jH (fun v_=>(vG R_ p_l v_).den) FU (v0,m1648)
def vH(R_:RB4)(p_l:List aA):(Int×(List (ByteArray×Bool)))→St:=fun(v0,m1648)=>⟨[(3,.mp 0),(7,.lf (.rows 6 (p_l.map aA.lf))),(8,.i_ (p_l.length:Int)),(9,.i_ v0)],[.map Tryz.prog 9 4 (m1648.map mvB)]⟩
def pR  (r_:Unit⊕Unit):St:=match r_ with
 |.inl o_=>⟨[(2,.b_ false)],[.dead]⟩
 |.inr (o_)=>⟨[],[.dead]⟩
theorem GK{R_:RB4}{p_l:List aA}{v0:Int}{m1648:List (ByteArray×Bool)}{r_:Unit⊕Unit}(h:DI R_ p_l v0 m1648=some r_):pG Tryz.f277 0 [1,1,0,1,0] (iV r_) (pR r_) (vH R_ p_l (v0,m1648)):=
 kU jw (body:=(Code.sub (bodyC Tryz.f277) [1,1,0,1,0,0])) (by kernel_rfl) (vG R_ p_l) (vH R_ p_l) iV pR (fun r_=>by rcases r_ with _|_<;>rfl) (fun v_=>by kernel_rfl) h
def RY(R_:RB4)(p_l:List aA):Mo (Bool):=
 .nu p_l aA.lf<|
 .ask2 (DI R_ p_l 0 ([]:List (ByteArray×Bool))) (fun _ _=>
 .stop) fun o0 h0=>
 .say [.pt_ 0 [3,7,8,9] 1 (iV (.inr (o0))) (pR (.inr (o0)))] (ok1 (GK h0))<|
 .ret (dK 1) (true)
theorem P8(R_:RB4):KO fun p_l=>Mo.den (RY R_ p_l):=fun _=>dS Tryz.func277
def vI:Nat→RB4
 |0=>{ m1:=fun p_v=>none,ok1:=fun _ _ h=>(by cases h),m2:=fun p_l=>none,ok2:=fun _ _ h=>(by cases h) }
 |n_+1=>{ m1:=fun p_v=>Mo.den (RX (vI n_) p_v),ok1:=P7 (vI n_),m2:=fun p_l=>Mo.den (RY (vI n_) p_l),ok2:=P8 (vI n_) }
def Q11(p_v:aj):Option (Bool):=(vI FU).m1 p_v
theorem U3:BZ Q11:=(vI FU).ok1
def Xl(p_v:aj):Mo (Bool):=
 .cl (PY p_v) fun r0 _=>
 .iG 4003 (decide ((r0:Int)≤1024)) (.cl (P6 p_v) fun r1 _=>
 .iG 4008 (decide ((r1:Int)≤16)) (.cl (U3 p_v) fun r2 _=>
 .ret (dK 1) (r2))<|
 .stop)<|
 .stop
def Q92(p_v:aj):Option (Bool):=Mo.den (Xl p_v)
theorem pU(p_v:aj):FV (Q92 p_v) 132 [.dat (aj.lf1 p_v)] .b_:=dS Tryz.func132
def KU(p_v:aj):Mo (Bool):=
 .iG 4003 (p_v.aB != 6) (.rt [1,2,10] 1 (p_v.aB != 1))<|
 .stop
def KW(p_v:aj)(r0:Bool):Mo (Bool):=
 .iG 4008 (r0) (.rt [1,2,15] 1 (p_v.aB != 11))<|
 .stop
def GL(p_v:aj)(r0:Bool):Mo (Bool):=
 .iG 4013 (r0) (.cl (pU p_v) fun r1 _=>
 .ret ⟨[.kill 0],[2,19],[],1⟩ (r1))<|
 .stop
def Xm(p_v:aj):Mo (Bool):=
 .sf Tryz.f110 0 [1,0] 0 8 1 [(1,.ptr 0 0),(2,.b_ false)] [bV p_v] 10 (KU p_v) fun r0=>
 .sb Tryz.f110 0 [1,0] 8 5 1 [(1,.ptr 0 0),(2,.b_ false)] [bV p_v] 10 15 r0 (KW p_v r0) fun r1=>
 .sk Tryz.f110 0 [1,0] 13 4 1 (fun r_=>⟨[(2,.b_ false),(19,.b_ r_)],[.dead]⟩) ⟨[(1,.ptr 0 0),(2,.b_ false),(15,.b_ r1)],[bV p_v]⟩ (GL p_v r1) fun r2=>
 .sk Tryz.f110 0 [1,0] 17 1 1 (fun r_=>⟨[(2,.b_ r2)],[.dead]⟩) ⟨[(2,.b_ false),(19,.b_ r2)],[.dead]⟩ (jl r2) fun r3=>
 .ret (dK 1) (r2)
def Q47(p_v:aj):Option (Bool):=Mo.den (Xm p_v)
theorem U4(p_v:aj):FV (Q47 p_v) 110 [.dat (aj.lf1 p_v)] .b_:=dS Tryz.func110
def U5(p_x:Int):Mo (Bool):=
 .ret (dK 1) (p_x != p_x)
def YF(p_x:Int):Option (Bool):=Mo.den (U5 p_x)
theorem DJ(p_x:Int):FV (YF p_x) 329 [.i_ p_x] .b_:=dS Tryz.func329
def U6(p_x:Int)(p_y:Int):Mo (Int):=
 .cl (DJ p_x) fun r0 _=>
 .cl (DJ p_y) fun r1 _=>
 .iB (r0) (.stop)<|
 .iB (r1) (.stop)<|
 .iB (decide ((p_x:Int)<p_y)) (.ret (dK 1) ((-1)))<|
 .iB (decide ((p_y:Int)<p_x)) (.stop)<|
 .ret (dK 1) (0)
def YG(p_x:Int)(p_y:Int):Option (Int):=Mo.den (U6 p_x p_y)
theorem P9(p_x:Int)(p_y:Int):FV (YG p_x p_y) 298 [.i_ p_x,.i_ p_y] .i_:=dS Tryz.func298
abbrev Cb(m:aj→aj→Option (Int)):Prop:=∀p_a p_b,FV (m p_a p_b) 254 [.dat (aj.lf1 p_a),.dat (aj.lf1 p_b)] .i_
structure RB5 where
 m1:(p_a:aj)→(p_b:aj)→Option (Int)
 ok1:Cb m1
def KX(R_:RB5)(p_a:aj)(p_b:aj):Mo (Bool):=
 .iB (p_a.aB==3) (.rt [2,3,21,22] 2 (p_a.aB==3))<|
 .stop
def RZ(R_:RB5)(p_a:aj)(p_b:aj):Mo (Int):=
 .iB (p_a.aB != p_b.aB) (.stop)<|
 .jk Tryz.f254 0 [1,1,0,1,0,0,1] 1 (fun r_=>⟨[(2,.ptr 0 0),(3,.ptr 1 0),(21,.i_ p_a.aB),(22,.b_ r_)],[bV p_a,bV p_b]⟩) ⟨[(2,.ptr 0 0),(3,.ptr 1 0),(21,.i_ p_a.aB),(22,.lf (.bool (p_a.aB==3)))],[bV p_a,bV p_b]⟩ (KX R_ p_a p_b) fun r0=>
 .iB (r0) (.cl (P9 p_a.dY p_b.dY) fun r1 _=>
 .ret (dK 1) (r1))<|
 .stop
theorem Qa(R_:RB5):Cb fun p_a p_b=>Mo.den (RZ R_ p_a p_b):=fun _ _=>dS Tryz.func254
def DK:Nat→RB5
 |0=>{ m1:=fun p_a p_b=>none,ok1:=fun _ _ _ h=>(by cases h) }
 |n_+1=>{ m1:=fun p_a p_b=>Mo.den (RZ (DK n_) p_a p_b),ok1:=Qa (DK n_) }
def Q77(p_a:aj)(p_b:aj):Option (Int):=(DK FU).m1 p_a p_b
theorem U7:Cb Q77:=(DK FU).ok1
def U8(p_a:aj)(p_b:aj):Mo (Bool):=
 .cl (U7 p_a p_b) fun r0 _=>
 .ret (dK 1) (r0==0)
def Xn(p_a:aj)(p_b:aj):Option (Bool):=Mo.den (U8 p_a p_b)
theorem Qb(p_a:aj)(p_b:aj):FV (Xn p_a p_b) 178 [.dat (aj.lf1 p_a),.dat (aj.lf1 p_b)] .b_:=dS Tryz.func178
def U9(p_n:Int):Mo (Int):=
 .say [] (okc (by decide:(0:Int)≤1) (ok1 (by decide:(0:Int)≤63)))<|
 .ret (dK 1) (gG .xor .u64 (Au .u64 (IntKind.wrap .u64 p_n) 1) (IntKind.wrap .u64 (tZ .i64 p_n 63)))
def Xo(p_n:Int):Option (Int):=Mo.den (U9 p_n)
theorem wU(p_n:Int):FV (Xo p_n) 202 [.i_ p_n] (fun r=>.lf (.int .u64 r)):=dS Tryz.func202
def KY :(Int×Int)→Mo ((Int×Int)⊕(Int)):=fun(v0,v1)=>
 .iB (decide ((128:Int)≤v1)) (.stop)<|
 .rt [3] 0 (.inr (v0))
def Xp(p_n:Int):Mo (Int):=
 .cl (wU p_n) fun r0 _=>
 .l1 Tryz.f300 0 [1,1,0,1,0] 0 (.exit 0) (fun(v0,v1)=>⟨[(3,.i_ v0),(4,.lf (.int .u64 v1))],[]⟩) (fun r_=>⟨[(3,.i_ r_)],[]⟩) (KY ) (1,r0) fun r1=>
 .ret (dK 1) (r1)
def Q69(p_n:Int):Option (Int):=Mo.den (Xp p_n)
theorem Cc(p_n:Int):FV (Q69 p_n) 300 [.i_ p_n] .i_:=dS Tryz.func300
end
end Go.Proofs.YtflpefkohpjjpaaGreatDoor
