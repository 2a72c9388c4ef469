/- Contracts that were shown by hand (codec.Read by its printed reader). -/
import Derived.Test.YtflpefkohpjjpaaGreatDoorQJCr
set_option linter.unusedSimpArgs false
set_option linter.unusedVariables false
namespace Go.Proofs.YtflpefkohpjjpaaGreatDoor
open Go.RowKit
set_option maxRecDepth 20000
set_option maxHeartbeats 4000000
noncomputable section
def akC(p_n:Int):Mo (ah):=
 .ret (aX 1) (ah.mk 3 p_n ⟨#[]⟩ [] [])
def anm(p_n:Int):Option (ah):=Mo.den (akC p_n)
theorem Ju(p_n:Int):FV (anm p_n) 74 [.i_ p_n] (fun r=>.dat (ah.lf1 r)):=bW Tryz.func74
def akD(p_stamp:Int)(p_key:Int)(p_id:Int):Mo (bG):=
 .cl (Ju p_id) fun r4 _=>
 .ask (anm p_key) fun r6 h7=>
 .say [.iD (.q 0 (.q 1 (.q 2 (.alt 3 (.l 4 (.q 5 (.q 6 (.l 7 .fin)))) (.l 4 (.l 3 (.q 5 (.q 6 (.l 7 .fin))))))))) (some 7) [] [.both [.res (.dat (ah.lf1 r6))] [.res (.dat (ah.lf1 r6))]] [6] 3 [(6,.ptr 0 0)] [.box 51 (Xe Z51 [(0,.i_ 1),(1,.i_ p_stamp),(4,.i_ 2),(5,.lf (.str ⟨#[115]⟩)),(6,.i_ r6.au),(7,.i_ r6.dD),(8,.lf (.str r6.fText)),(9,.lf (.rows 5 (r6.aU.map ah.lf))),(10,.lf (.rows 6 (r6.aT.map ay.lf))),(11,.i_ 5),(15,.own 1)]),.row 115 6 [(ay.lf1 (ay.mk ⟨#[95,105,100]⟩ r4))],.box 25 (.agg [.i_ 5,.i_ 0,.lf (.str ⟨#[]⟩),.bJ 5,.own 1])],.at_ 0 0,.pY 1 ([ay.mk ⟨#[95,105,100]⟩ r4].map ay.lf)] (okc (Ju _ _ h7) (okc (rf_ ⟨[(6,.ptr 0 0)],[.box 51 (Xe Z51 [(0,.i_ 1),(1,.i_ p_stamp),(4,.i_ 2),(5,.lf (.str ⟨#[115]⟩)),(6,.i_ r6.au),(7,.i_ r6.dD),(8,.lf (.str r6.fText)),(9,.lf (.rows 5 (r6.aU.map ah.lf))),(10,.lf (.rows 6 (r6.aT.map ay.lf))),(11,.i_ 5),(15,.own 1)]),.row 115 6 [(ay.lf1 (ay.mk ⟨#[95,105,100]⟩ r4))],.box 25 (.agg [.i_ 5,.i_ 0,.lf (.str ⟨#[]⟩),.bJ 5,.own 1])]⟩) (okc (Ju _ _ h7) (okc (rf_ ⟨[(6,.ptr 0 0)],[.box 51 (Xe Z51 [(0,.i_ 1),(1,.i_ p_stamp),(4,.i_ 2),(5,.lf (.str ⟨#[115]⟩)),(6,.i_ r6.au),(7,.i_ r6.dD),(8,.lf (.str r6.fText)),(9,.lf (.rows 5 (r6.aU.map ah.lf))),(10,.lf (.rows 6 (r6.aT.map ay.lf))),(11,.i_ 5),(15,.own 1)]),.row 115 6 [(ay.lf1 (ay.mk ⟨#[95,105,100]⟩ r4))],.box 25 (.agg [.i_ 5,.i_ 0,.lf (.str ⟨#[]⟩),.bJ 5,.own 1])]⟩) (ok1 (by simp[ay.aS]:[ay.mk ⟨#[95,105,100]⟩ r4].map ay.lf=[(ay.lf1 (ay.mk ⟨#[95,105,100]⟩ r4))]))))))<|
 .ret (aX 1) (bG.mk 1 p_stamp ⟨#[]⟩ 0 (ak.anb (ak.ana (ak.abj (ak.FZ ak.z 2) ⟨#[115]⟩) r6) (ah.mk 5 0 ⟨#[]⟩ [] [ay.mk ⟨#[95,105,100]⟩ r4])))
def aoE(p_stamp:Int)(p_key:Int)(p_id:Int):Option (bG):=Mo.den (akD p_stamp p_key p_id)
theorem Jv(p_stamp:Int)(p_key:Int)(p_id:Int):FV (aoE p_stamp p_key p_id) 33 [.i_ p_stamp,.i_ p_key,.i_ p_id] (fun r=>.dat (bG.lf1 r)):=bW Tryz.func33
def abJ(p_s:ByteArray):Mo (Bool):=
 .iG 4003 (decide (((p_s.size:Int):Int)<1)) (.stop)<|
 .rt [0,11] 0 (decide ((32:Int)<(p_s.size:Int)))
def abK(p_s:ByteArray)(r0:Bool):Mo (Bool):=
 .iG 4008 (r0) (.stop)<|
 .ask (iw p_s 0) fun b0 h0=>
 .say [.byt b0] (ok1 (dL h0))<|
 .rt [0,16] 0 ((b0.toNat:Int)==36)
def Xv(p_s:ByteArray)(v0:Int):Mo (Bool):=
 .ask (iw p_s v0) fun b0 h0=>
 .say [.byt b0] (ok1 (dL h0))<|
 .iG 14004 (decide (((b0.toNat:Int):Int)<33)) (.stop)<|
 .ask (iw p_s v0) fun b1 h1=>
 .say [.byt b1] (ok1 (dL h1))<|
 .rt [0,3,18,19,31] 0 (decide ((126:Int)<(b1.toNat:Int)))
def Xw(p_s:ByteArray)(r0:Bool)(v0:Int):Mo (Bool):=
 .iG 14010 (r0) (.stop)<|
 .ask (iw p_s v0) fun b0 h0=>
 .say [.byt b0] (ok1 (dL h0))<|
 .rt [0,18,19,37] 0 ((b0.toNat:Int)==46)
def Gi(p_s:ByteArray):(Int)→Mo ((Int)⊕(Unit⊕Unit)):=fun(v0)=>
 .iB (decide ((v0:Int)<(p_s.size:Int))) (.sf Tryz.f29 0 [1,1,0,1,0,0,1,1,0,0,1,0] 0 10 6 [(0,.lf (.str p_s)),(3,.i_ v0),(18,.i_ (p_s.size:Int)),(19,.i_ v0)] [] 31 (Xv p_s v0) fun r0=>
 .sk Tryz.f29 0 [1,1,0,1,0,0,1,1,0,0,1,0] 10 6 6 (fun r_=>⟨[(0,.lf (.str p_s)),(18,.i_ (p_s.size:Int)),(19,.i_ v0),(37,.b_ r_)],[]⟩) ⟨[(0,.lf (.str p_s)),(3,.i_ v0),(18,.i_ (p_s.size:Int)),(19,.i_ v0),(31,.b_ r0)],[]⟩ (Xw p_s r0 v0) fun r1=>
 .iB (r1) (.stop)<|
 .rt [0,18,19] 0 (.inl (IntKind.wrap .i64 (v0+1))))<|
 .rt [] 0 (.inr (.inr (())))
def UR(p_s:ByteArray)(v0:Int):Option (Unit⊕Unit):=bP (fun v_=>(Gi p_s v_).den) FU (v0)
def Gj(p_s:ByteArray):(Int)→St:=fun(v0)=>⟨[(0,.lf (.str p_s)),(18,.i_ (p_s.size:Int)),(19,.i_ v0)],[]⟩
def zh(r_:Unit⊕Unit):Exit:=match r_ with
 |.inl o_=>.ret
 |.inr (o_)=>.exit 0
def zi  (r_:Unit⊕Unit):St:=match r_ with
 |.inl o_=>⟨[(2,.b_ false)],[]⟩
 |.inr (o_)=>⟨[],[]⟩
theorem Xx{p_s:ByteArray}{v0:Int}{r_:Unit⊕Unit}(h:UR p_s v0=some r_):Jo Tryz.f29 0 [1,1,0,1,0] (zh r_) (zi r_) (Gj p_s (v0)):=
 Jm kP (body:=(Code.sub (bodyC Tryz.f29) [1,1,0,1,0,0])) (by kernel_rfl) (Gi p_s) (Gj p_s) zh zi (fun r_=>by rcases r_ with _|_<;>rfl) (fun v_=>by kernel_rfl) h
def ano(p_s:ByteArray):Mo (Bool):=
 .sf Tryz.f29 0 [1,0,0] 0 8 1 [(0,.lf (.str p_s))] [] 11 (abJ p_s) fun r0=>
 .sb Tryz.f29 0 [1,0,0] 8 5 1 [(0,.lf (.str p_s))] [] 11 16 r0 (abK p_s r0) fun r1=>
 .iB (r1) (.stop)<|
 .jE (UR p_s 0) (fun _ _=>
 .stop) fun o0 h0=>
 .say [.pt_ 0 [0,18,19] 0 (zh (.inr (o0))) (zi (.inr (o0)))] (ok1 (Xx h0))<|
 .ret (aX 1) (true)
def Q36(p_s:ByteArray):Option (Bool):=Mo.den (ano p_s)
theorem akE(p_s:ByteArray):FV (Q36 p_s) 29 [.lf (.str p_s)] .b_:=bW Tryz.func29
def akF(p_kind:Int):Mo (bg):=
 .iB (p_kind==2) (.ret (aX 1) (bg.aot (bg.aos (bg.akl bg.z true) true) true))<|
 .iB (p_kind==3) (.stop)<|
 .iB (p_kind==4) (.stop)<|
 .iB (p_kind==5) (.stop)<|
 .iB (p_kind==6) (.stop)<|
 .iB (p_kind==7) (.stop)<|
 .iB (p_kind==8) (.stop)<|
 .iB (p_kind==9) (.stop)<|
 .iB (p_kind==10) (.stop)<|
 .iB (p_kind==11) (.stop)<|
 .iB (p_kind==12) (.stop)<|
 .ret (aX 1) (bg.z)
def aoF(p_kind:Int):Option (bg):=Mo.den (akF p_kind)
theorem UU(p_kind:Int):FV (aoF p_kind) 56 [.i_ p_kind] (fun r=>.dat (bg.lf1 r)):=bW Tryz.func56
def wM(p_v:ah):Mo (Bool):=
 .aV 4003 (p_v.au==0) [1,2,10] 1 (p_v.dD==0)
def wO(p_v:ah)(r0:Bool):Mo (Bool):=
 .aV 4008 (r0) [1,2,15] 1 (decide ((p_v.fText:ByteArray)=(⟨#[]⟩:ByteArray)))
def rJ(p_v:ah)(r0:Bool):Mo (Bool):=
 .iG 4013 (r0) (.nu p_v.aU ah.lf<|
 .rt [1,2,21] 1 ((p_v.aU.length:Int)==0))<|
 .rt [1,2,21] 1 (false)
def rM(p_v:ah)(r0:Bool):Mo (Bool):=
 .iG 4019 (r0) (.nu p_v.aT ay.lf<|
 .ret ⟨[.kill 0],[2,27],[],1⟩ ((p_v.aT.length:Int)==0))<|
 .ret ⟨[.kill 0],[2,27],[],1⟩ (false)
def fU(r0:Bool):Mo (Unit):=
 .rt [2] 1 ()
def aoG(p_v:ah):Mo (Bool):=
 .sf Tryz.f112 0 [1,0] 0 8 1 [(1,.ptr 0 0),(2,.b_ false)] [aZ p_v] 10 (wM p_v) fun r0=>
 .sb Tryz.f112 0 [1,0] 8 5 1 [(1,.ptr 0 0),(2,.b_ false)] [aZ p_v] 10 15 r0 (wO p_v r0) fun r1=>
 .sb Tryz.f112 0 [1,0] 13 6 1 [(1,.ptr 0 0),(2,.b_ false)] [aZ p_v] 15 21 r1 (rJ p_v r1) fun r2=>
 .sk Tryz.f112 0 [1,0] 19 6 1 (fun r_=>⟨[(2,.b_ false),(27,.b_ r_)],[.dead]⟩) ⟨[(1,.ptr 0 0),(2,.b_ false),(21,.b_ r2)],[aZ p_v]⟩ (rM p_v r2) fun r3=>
 .sk Tryz.f112 0 [1,0] 25 1 1 (fun r_=>⟨[(2,.b_ r3)],[.dead]⟩) ⟨[(2,.b_ false),(27,.b_ r3)],[.dead]⟩ (fU r3) fun r4=>
 .ret (aX 1) (r3)
def Q5(p_v:ah):Option (Bool):=Mo.den (aoG p_v)
theorem wP(p_v:ah):FV (Q5 p_v) 112 [.dat (ah.lf1 p_v)] .b_:=bW Tryz.func112
def abL(p_s:aH):Mo (Bool):=
 .iG 4003 (p_s.ji==0) (.rt [1,2,10] 1 (!p_s.jl))<|
 .stop
def abM(p_s:aH)(r0:Bool):Mo (Bool):=
 .iG 4008 (r0) (.cl (wP p_s.jK) fun r1 _=>
 .rt [1,2,15] 1 (r1))<|
 .stop
def Xy(p_s:aH)(r0:Bool):Mo (Bool):=
 .iG 4013 (r0) (.rt [1,2,20] 1 (!p_s.jm))<|
 .stop
def Xz(p_s:aH)(r0:Bool):Mo (Bool):=
 .iG 4018 (r0) (.cl (wP p_s.jL) fun r1 _=>
 .rt [1,2,25] 1 (r1))<|
 .stop
def XA(p_s:aH)(r0:Bool):Mo (Bool):=
 .iG 4023 (r0) (.nu p_s.jS ah.lf<|
 .rt [1,2,31] 1 ((p_s.jS.length:Int)==0))<|
 .stop
def XB(p_s:aH)(r0:Bool):Mo (Bool):=
 .iG 4029 (r0) (.rt [1,2,36] 1 (p_s.jo==0))<|
 .stop
def XC(p_s:aH)(r0:Bool):Mo (Bool):=
 .iG 4034 (r0) (.rt [1,2,41] 1 (p_s.jq==0))<|
 .stop
def XD(p_s:aH)(r0:Bool):Mo (Bool):=
 .iG 4039 (r0) (.nu p_s.eY lfS<|
 .rt [1,2,47] 1 ((p_s.eY.length:Int)==0))<|
 .stop
def XE(p_s:aH)(r0:Bool):Mo (Bool):=
 .iG 4045 (r0) (.nu p_s.dR bD.lf<|
 .rt [1,2,53] 1 ((p_s.dR.length:Int)==0))<|
 .stop
def XF(p_s:aH)(r0:Bool):Mo (Bool):=
 .iG 4051 (r0) (.rt [1,2,58] 1 (!p_s.jQ))<|
 .stop
def XG(p_s:aH)(r0:Bool):Mo (Bool):=
 .iG 4056 (r0) (.nu p_s.fB aH.lf<|
 .rt [1,2,64] 1 ((p_s.fB.length:Int)==0))<|
 .stop
def XH(p_s:aH)(r0:Bool):Mo (Bool):=
 .iG 4062 (r0) (.ret ⟨[.kill 0],[2,69],[],1⟩ (!p_s.fF))<|
 .stop
def anp(p_s:aH):Mo (Bool):=
 .sf Tryz.f252 0 [1,0] 0 8 1 [(1,.ptr 0 0),(2,.b_ false)] [iy p_s] 10 (abL p_s) fun r0=>
 .sb Tryz.f252 0 [1,0] 8 5 1 [(1,.ptr 0 0),(2,.b_ false)] [iy p_s] 10 15 r0 (abM p_s r0) fun r1=>
 .sb Tryz.f252 0 [1,0] 13 5 1 [(1,.ptr 0 0),(2,.b_ false)] [iy p_s] 15 20 r1 (Xy p_s r1) fun r2=>
 .sb Tryz.f252 0 [1,0] 18 5 1 [(1,.ptr 0 0),(2,.b_ false)] [iy p_s] 20 25 r2 (Xz p_s r2) fun r3=>
 .sb Tryz.f252 0 [1,0] 23 6 1 [(1,.ptr 0 0),(2,.b_ false)] [iy p_s] 25 31 r3 (XA p_s r3) fun r4=>
 .sb Tryz.f252 0 [1,0] 29 5 1 [(1,.ptr 0 0),(2,.b_ false)] [iy p_s] 31 36 r4 (XB p_s r4) fun r5=>
 .sb Tryz.f252 0 [1,0] 34 5 1 [(1,.ptr 0 0),(2,.b_ false)] [iy p_s] 36 41 r5 (XC p_s r5) fun r6=>
 .sb Tryz.f252 0 [1,0] 39 6 1 [(1,.ptr 0 0),(2,.b_ false)] [iy p_s] 41 47 r6 (XD p_s r6) fun r7=>
 .sb Tryz.f252 0 [1,0] 45 6 1 [(1,.ptr 0 0),(2,.b_ false)] [iy p_s] 47 53 r7 (XE p_s r7) fun r8=>
 .sb Tryz.f252 0 [1,0] 51 5 1 [(1,.ptr 0 0),(2,.b_ false)] [iy p_s] 53 58 r8 (XF p_s r8) fun r9=>
 .sb Tryz.f252 0 [1,0] 56 6 1 [(1,.ptr 0 0),(2,.b_ false)] [iy p_s] 58 64 r9 (XG p_s r9) fun r10=>
 .sk Tryz.f252 0 [1,0] 62 5 1 (fun r_=>⟨[(2,.b_ false),(69,.b_ r_)],[.dead]⟩) ⟨[(1,.ptr 0 0),(2,.b_ false),(64,.b_ r10)],[iy p_s]⟩ (XH p_s r10) fun r11=>
 .sk Tryz.f252 0 [1,0] 67 1 1 (fun r_=>⟨[(2,.b_ r11)],[.dead]⟩) ⟨[(2,.b_ false),(69,.b_ r11)],[.dead]⟩ (fU r11) fun r12=>
 .ret (aX 1) (r11)
def Q31(p_s:aH):Option (Bool):=Mo.den (anp p_s)
theorem akG(p_s:aH):FV (Q31 p_s) 252 [.dat (aH.lf1 p_s)] .b_:=bW Tryz.func252
def XI(p_d:bU):Mo (Bool):=
 .iG 4003 (decide ((p_d.fName:ByteArray)=(⟨#[]⟩:ByteArray))) (.nu p_d.dw aQ.lf<|
 .rt [1,2,11] 1 ((p_d.dw.length:Int)==0))<|
 .stop
def XJ(p_d:bU)(r0:Bool):Mo (Bool):=
 .iG 4009 (r0) (.cl (akG p_d.bC) fun r1 _=>
 .rt [1,2,16] 1 (r1))<|
 .stop
def QU(p_d:bU)(r0:Bool):Mo (Bool):=
 .iG 4014 (r0) (.rt [1,2,21] 1 (p_d.ku==0))<|
 .stop
def QV(p_d:bU)(r0:Bool):Mo (Bool):=
 .iG 4019 (r0) (.ret ⟨[.kill 0],[2,26],[],1⟩ (p_d.jr==0))<|
 .stop
def akH(p_d:bU):Mo (Bool):=
 .sf Tryz.f176 0 [1,0] 0 9 1 [(1,.ptr 0 0),(2,.b_ false)] [qQ p_d] 11 (XI p_d) fun r0=>
 .sb Tryz.f176 0 [1,0] 9 5 1 [(1,.ptr 0 0),(2,.b_ false)] [qQ p_d] 11 16 r0 (XJ p_d r0) fun r1=>
 .sb Tryz.f176 0 [1,0] 14 5 1 [(1,.ptr 0 0),(2,.b_ false)] [qQ p_d] 16 21 r1 (QU p_d r1) fun r2=>
 .sk Tryz.f176 0 [1,0] 19 5 1 (fun r_=>⟨[(2,.b_ false),(26,.b_ r_)],[.dead]⟩) ⟨[(1,.ptr 0 0),(2,.b_ false),(21,.b_ r2)],[qQ p_d]⟩ (QV p_d r2) fun r3=>
 .sk Tryz.f176 0 [1,0] 24 1 1 (fun r_=>⟨[(2,.b_ r3)],[.dead]⟩) ⟨[(2,.b_ false),(26,.b_ r3)],[.dead]⟩ (fU r3) fun r4=>
 .ret (aX 1) (r3)
def aoH(p_d:bU):Option (Bool):=Mo.den (akH p_d)
theorem agX(p_d:bU):FV (aoH p_d) 176 [.dat (bU.lf1 p_d)] .b_:=bW Tryz.func176
def abN(p_e:aO):Mo (Bool):=
 .iG 4003 (p_e.fOp==0) (.nu p_e.cZ lfS<|
 .rt [1,2,11] 1 ((p_e.cZ.length:Int)==0))<|
 .stop
def abO(p_e:aO)(r0:Bool):Mo (Bool):=
 .iG 4009 (r0) (.rt [1,2,16] 1 (decide ((p_e.fName:ByteArray)=(⟨#[]⟩:ByteArray))))<|
 .stop
def XK(p_e:aO)(r0:Bool):Mo (Bool):=
 .iG 4014 (r0) (.nu p_e.eG lfS<|
 .rt [1,2,22] 1 ((p_e.eG.length:Int)==0))<|
 .stop
def XL(p_e:aO)(r0:Bool):Mo (Bool):=
 .iG 4020 (r0) (.cl (wP p_e.fArg) fun r1 _=>
 .rt [1,2,27] 1 (r1))<|
 .stop
def XM(p_e:aO)(r0:Bool):Mo (Bool):=
 .iG 4025 (r0) (.rt [1,2,32] 1 (p_e.fN==0))<|
 .stop
def XO(p_e:aO)(r0:Bool):Mo (Bool):=
 .iG 4030 (r0) (.nu p_e.bM aO.lf<|
 .ret ⟨[.kill 0],[2,38],[],1⟩ ((p_e.bM.length:Int)==0))<|
 .stop
def anq(p_e:aO):Mo (Bool):=
 .sf Tryz.f297 0 [1,0] 0 9 1 [(1,.ptr 0 0),(2,.b_ false)] [eP p_e] 11 (abN p_e) fun r0=>
 .sb Tryz.f297 0 [1,0] 9 5 1 [(1,.ptr 0 0),(2,.b_ false)] [eP p_e] 11 16 r0 (abO p_e r0) fun r1=>
 .sb Tryz.f297 0 [1,0] 14 6 1 [(1,.ptr 0 0),(2,.b_ false)] [eP p_e] 16 22 r1 (XK p_e r1) fun r2=>
 .sb Tryz.f297 0 [1,0] 20 5 1 [(1,.ptr 0 0),(2,.b_ false)] [eP p_e] 22 27 r2 (XL p_e r2) fun r3=>
 .sb Tryz.f297 0 [1,0] 25 5 1 [(1,.ptr 0 0),(2,.b_ false)] [eP p_e] 27 32 r3 (XM p_e r3) fun r4=>
 .sk Tryz.f297 0 [1,0] 30 6 1 (fun r_=>⟨[(2,.b_ false),(38,.b_ r_)],[.dead]⟩) ⟨[(1,.ptr 0 0),(2,.b_ false),(32,.b_ r4)],[eP p_e]⟩ (XO p_e r4) fun r5=>
 .sk Tryz.f297 0 [1,0] 36 1 1 (fun r_=>⟨[(2,.b_ r5)],[.dead]⟩) ⟨[(2,.b_ false),(38,.b_ r5)],[.dead]⟩ (fU r5) fun r6=>
 .ret (aX 1) (r5)
def Q96(p_e:aO):Option (Bool):=Mo.den (anq p_e)
theorem akI(p_e:aO):FV (Q96 p_e) 297 [.dat (aO.lf1 p_e)] .b_:=bW Tryz.func297
def abP(p_p:aN):Mo (Bool):=
 .iG 4003 (p_p.fOp==0) (.nu p_p.cZ lfS<|
 .rt [1,2,11] 1 ((p_p.cZ.length:Int)==0))<|
 .stop
def abQ(p_p:aN)(r0:Bool):Mo (Bool):=
 .iG 4009 (r0) (.cl (wP p_p.fArg) fun r1 _=>
 .rt [1,2,16] 1 (r1))<|
 .stop
def XP(p_p:aN)(r0:Bool):Mo (Bool):=
 .iG 4014 (r0) (.nu p_p.fArgs ah.lf<|
 .rt [1,2,22] 1 ((p_p.fArgs.length:Int)==0))<|
 .stop
def XQ(p_p:aN)(r0:Bool):Mo (Bool):=
 .iG 4020 (r0) (.rt [1,2,27] 1 (p_p.fN==0))<|
 .stop
def XR(p_p:aN)(r0:Bool):Mo (Bool):=
 .iG 4025 (r0) (.rt [1,2,32] 1 (p_p.fM==0))<|
 .stop
def XT(p_p:aN)(r0:Bool):Mo (Bool):=
 .iG 4030 (r0) (.rt [1,2,38] 1 (p_p.dO.au==0))<|
 .stop
def XU(p_p:aN)(r0:Bool):Mo (Bool):=
 .iG 4036 (r0) (.nu p_p.dO.cO bT.lf<|
 .rt [1,2,45] 1 ((p_p.dO.cO.length:Int)==0))<|
 .stop
def XV(p_p:aN)(r0:Bool):Mo (Bool):=
 .iG 4043 (r0) (.rt [1,2,51] 1 (p_p.dO.fR==0))<|
 .stop
def XW(p_p:aN)(r0:Bool):Mo (Bool):=
 .iG 4049 (r0) (.cl (akI p_p.fExpr) fun r1 _=>
 .rt [1,2,56] 1 (r1))<|
 .stop
def XY(p_p:aN)(r0:Bool):Mo (Bool):=
 .iG 4054 (r0) (.nu p_p.bM aN.lf<|
 .ret ⟨[.kill 0],[2,62],[],1⟩ ((p_p.bM.length:Int)==0))<|
 .stop
def anr(p_p:aN):Mo (Bool):=
 .sf Tryz.f253 0 [1,0] 0 9 1 [(1,.ptr 0 0),(2,.b_ false)] [dP p_p] 11 (abP p_p) fun r0=>
 .sb Tryz.f253 0 [1,0] 9 5 1 [(1,.ptr 0 0),(2,.b_ false)] [dP p_p] 11 16 r0 (abQ p_p r0) fun r1=>
 .sb Tryz.f253 0 [1,0] 14 6 1 [(1,.ptr 0 0),(2,.b_ false)] [dP p_p] 16 22 r1 (XP p_p r1) fun r2=>
 .sb Tryz.f253 0 [1,0] 20 5 1 [(1,.ptr 0 0),(2,.b_ false)] [dP p_p] 22 27 r2 (XQ p_p r2) fun r3=>
 .sb Tryz.f253 0 [1,0] 25 5 1 [(1,.ptr 0 0),(2,.b_ false)] [dP p_p] 27 32 r3 (XR p_p r3) fun r4=>
 .sb Tryz.f253 0 [1,0] 30 6 1 [(1,.ptr 0 0),(2,.b_ false)] [dP p_p] 32 38 r4 (XT p_p r4) fun r5=>
 .sb Tryz.f253 0 [1,0] 36 7 1 [(1,.ptr 0 0),(2,.b_ false)] [dP p_p] 38 45 r5 (XU p_p r5) fun r6=>
 .sb Tryz.f253 0 [1,0] 43 6 1 [(1,.ptr 0 0),(2,.b_ false)] [dP p_p] 45 51 r6 (XV p_p r6) fun r7=>
 .sb Tryz.f253 0 [1,0] 49 5 1 [(1,.ptr 0 0),(2,.b_ false)] [dP p_p] 51 56 r7 (XW p_p r7) fun r8=>
 .sk Tryz.f253 0 [1,0] 54 6 1 (fun r_=>⟨[(2,.b_ false),(62,.b_ r_)],[.dead]⟩) ⟨[(1,.ptr 0 0),(2,.b_ false),(56,.b_ r8)],[dP p_p]⟩ (XY p_p r8) fun r9=>
 .sk Tryz.f253 0 [1,0] 60 1 1 (fun r_=>⟨[(2,.b_ r9)],[.dead]⟩) ⟨[(2,.b_ false),(62,.b_ r9)],[.dead]⟩ (fU r9) fun r10=>
 .ret (aX 1) (r9)
def Q51(p_p:aN):Option (Bool):=Mo.den (anr p_p)
theorem akJ(p_p:aN):FV (Q51 p_p) 253 [.dat (aN.lf1 p_p)] .b_:=bW Tryz.func253
def abR(p_x:aQ):Mo (Bool):=
 .iG 4003 (decide ((p_x.fName:ByteArray)=(⟨#[]⟩:ByteArray))) (.rt [1,2,10] 1 (p_x.au==0))<|
 .stop
def abS(p_x:aQ)(r0:Bool):Mo (Bool):=
 .iG 4008 (r0) (.nu p_x.fJ bn.lf<|
 .rt [1,2,16] 1 ((p_x.fJ.length:Int)==0))<|
 .stop
def XZ(p_x:aQ)(r0:Bool):Mo (Bool):=
 .iG 4014 (r0) (.rt [1,2,21] 1 (!p_x.fF))<|
 .stop
def X0(p_x:aQ)(r0:Bool):Mo (Bool):=
 .iG 4019 (r0) (.rt [1,2,26] 1 (!p_x.jh))<|
 .stop
def X3(p_x:aQ)(r0:Bool):Mo (Bool):=
 .iG 4024 (r0) (.rt [1,2,31] 1 (!p_x.iF))<|
 .stop
def X4(p_x:aQ)(r0:Bool):Mo (Bool):=
 .iG 4029 (r0) (.cl (akJ p_x.bF) fun r1 _=>
 .ret ⟨[.kill 0],[2,36],[],1⟩ (r1))<|
 .stop
def ant(p_x:aQ):Mo (Bool):=
 .sf Tryz.f177 0 [1,0] 0 8 1 [(1,.ptr 0 0),(2,.b_ false)] [kQ p_x] 10 (abR p_x) fun r0=>
 .sb Tryz.f177 0 [1,0] 8 6 1 [(1,.ptr 0 0),(2,.b_ false)] [kQ p_x] 10 16 r0 (abS p_x r0) fun r1=>
 .sb Tryz.f177 0 [1,0] 14 5 1 [(1,.ptr 0 0),(2,.b_ false)] [kQ p_x] 16 21 r1 (XZ p_x r1) fun r2=>
 .sb Tryz.f177 0 [1,0] 19 5 1 [(1,.ptr 0 0),(2,.b_ false)] [kQ p_x] 21 26 r2 (X0 p_x r2) fun r3=>
 .sb Tryz.f177 0 [1,0] 24 5 1 [(1,.ptr 0 0),(2,.b_ false)] [kQ p_x] 26 31 r3 (X3 p_x r3) fun r4=>
 .sk Tryz.f177 0 [1,0] 29 5 1 (fun r_=>⟨[(2,.b_ false),(36,.b_ r_)],[.dead]⟩) ⟨[(1,.ptr 0 0),(2,.b_ false),(31,.b_ r4)],[kQ p_x]⟩ (X4 p_x r4) fun r5=>
 .sk Tryz.f177 0 [1,0] 34 1 1 (fun r_=>⟨[(2,.b_ r5)],[.dead]⟩) ⟨[(2,.b_ false),(36,.b_ r5)],[.dead]⟩ (fU r5) fun r6=>
 .ret (aX 1) (r5)
def Q88(p_x:aQ):Option (Bool):=Mo.den (ant p_x)
theorem akK(p_x:aQ):FV (Q88 p_x) 177 [.dat (aQ.lf1 p_x)] .b_:=bW Tryz.func177
def abT(p_w:ak):Mo (Bool):=
 .iG 4003 (p_w.au==0) (.rt [1,2,10] 1 (decide ((p_w.fC:ByteArray)=(⟨#[]⟩:ByteArray))))<|
 .stop
def abU(p_w:ak)(r0:Bool):Mo (Bool):=
 .iG 4008 (r0) (.cl (wP p_w.fO) fun r1 _=>
 .rt [1,2,15] 1 (r1))<|
 .stop
def X5(p_w:ak)(r0:Bool):Mo (Bool):=
 .iG 4013 (r0) (.cl (wP p_w.aT) fun r1 _=>
 .rt [1,2,20] 1 (r1))<|
 .stop
def X6(p_w:ak)(r0:Bool):Mo (Bool):=
 .iG 4018 (r0) (.cl (wP p_w.dG) fun r1 _=>
 .rt [1,2,25] 1 (r1))<|
 .stop
def X7(p_w:ak)(r0:Bool):Mo (Bool):=
 .iG 4023 (r0) (.cl (agX p_w.dh) fun r1 _=>
 .rt [1,2,30] 1 (r1))<|
 .stop
def X8(p_w:ak)(r0:Bool):Mo (Bool):=
 .iG 4028 (r0) (.cl (akK p_w.bf) fun r1 _=>
 .rt [1,2,35] 1 (r1))<|
 .stop
def X9(p_w:ak)(r0:Bool):Mo (Bool):=
 .iG 4033 (r0) (.rt [1,2,40] 1 (decide ((p_w.nN:ByteArray)=(⟨#[]⟩:ByteArray))))<|
 .stop
def Ya(p_w:ak)(r0:Bool):Mo (Bool):=
 .iG 4038 (r0) (.rt [1,2,45] 1 (p_w.eU==0))<|
 .stop
def Yb(p_w:ak)(r0:Bool):Mo (Bool):=
 .iG 4043 (r0) (.nu p_w.aY ak.lf<|
 .rt [1,2,51] 1 ((p_w.aY.length:Int)==0))<|
 .stop
def Yc(p_w:ak)(r0:Bool):Mo (Bool):=
 .iG 4049 (r0) (.nu p_w.dK lfI<|
 .rt [1,2,57] 1 ((p_w.dK.length:Int)==0))<|
 .stop
def Yd(p_w:ak)(r0:Bool):Mo (Bool):=
 .iG 4055 (r0) (.ret ⟨[.kill 0],[2,62],[],1⟩ (!p_w.iQ))<|
 .stop
def anu(p_w:ak):Mo (Bool):=
 .sf Tryz.f109 0 [1,0] 0 8 1 [(1,.ptr 0 0),(2,.b_ false)] [cu p_w] 10 (abT p_w) fun r0=>
 .sb Tryz.f109 0 [1,0] 8 5 1 [(1,.ptr 0 0),(2,.b_ false)] [cu p_w] 10 15 r0 (abU p_w r0) fun r1=>
 .sb Tryz.f109 0 [1,0] 13 5 1 [(1,.ptr 0 0),(2,.b_ false)] [cu p_w] 15 20 r1 (X5 p_w r1) fun r2=>
 .sb Tryz.f109 0 [1,0] 18 5 1 [(1,.ptr 0 0),(2,.b_ false)] [cu p_w] 20 25 r2 (X6 p_w r2) fun r3=>
 .sb Tryz.f109 0 [1,0] 23 5 1 [(1,.ptr 0 0),(2,.b_ false)] [cu p_w] 25 30 r3 (X7 p_w r3) fun r4=>
 .sb Tryz.f109 0 [1,0] 28 5 1 [(1,.ptr 0 0),(2,.b_ false)] [cu p_w] 30 35 r4 (X8 p_w r4) fun r5=>
 .sb Tryz.f109 0 [1,0] 33 5 1 [(1,.ptr 0 0),(2,.b_ false)] [cu p_w] 35 40 r5 (X9 p_w r5) fun r6=>
 .sb Tryz.f109 0 [1,0] 38 5 1 [(1,.ptr 0 0),(2,.b_ false)] [cu p_w] 40 45 r6 (Ya p_w r6) fun r7=>
 .sb Tryz.f109 0 [1,0] 43 6 1 [(1,.ptr 0 0),(2,.b_ false)] [cu p_w] 45 51 r7 (Yb p_w r7) fun r8=>
 .sb Tryz.f109 0 [1,0] 49 6 1 [(1,.ptr 0 0),(2,.b_ false)] [cu p_w] 51 57 r8 (Yc p_w r8) fun r9=>
 .sk Tryz.f109 0 [1,0] 55 5 1 (fun r_=>⟨[(2,.b_ false),(62,.b_ r_)],[.dead]⟩) ⟨[(1,.ptr 0 0),(2,.b_ false),(57,.b_ r9)],[cu p_w]⟩ (Yd p_w r9) fun r10=>
 .sk Tryz.f109 0 [1,0] 60 1 1 (fun r_=>⟨[(2,.b_ r10)],[.dead]⟩) ⟨[(2,.b_ false),(62,.b_ r10)],[.dead]⟩ (fU r10) fun r11=>
 .ret (aX 1) (r10)
def Q37(p_w:ak):Option (Bool):=Mo.den (anu p_w)
theorem akL(p_w:ak):FV (Q37 p_w) 109 [.dat (ak.lf1 p_w)] .b_:=bW Tryz.func109
def abV(p_w:ak)(r0:bg):Mo (ak):=
 .iB (r0.yR) (.rt [1,3] 2 (ak.abj (ak.FZ p_w 0) ⟨#[]⟩))<|
 .rt [1,3] 2 (ak.FZ p_w 0)
def abW(r0:bg)(r1:ak):Mo (ak):=
 .iB (r0.QC) (.ret ⟨[.norm 0],[1,3],[],2⟩ (ak.agD (ak.agC (ak.ana r1 (ah.mk 0 0 ⟨#[]⟩ [] [])) (ah.mk 0 0 ⟨#[]⟩ [] [])) false))<|
 .rt [1,3] 2 (r1)
def Ye(r0:bg)(r1:ak):Mo (ak):=
 .iB (r0.abg) (.ret ⟨[.norm 0],[1,3],[],2⟩ (ak.anb r1 (ah.mk 0 0 ⟨#[]⟩ [] [])))<|
 .rt [1,3] 2 (r1)
def Yf(r0:bg)(r1:ak):Mo (ak):=
 .iB (r0.Xd) (.stop)<|
 .rt [1,3] 2 (r1)
def Yg(r0:bg)(r1:ak):Mo (ak):=
 .iB (r0.yS) (.stop)<|
 .rt [1,3] 2 (r1)
def Yh(r0:bg)(r1:ak):Mo (ak):=
 .iB (r0.kC) (.stop)<|
 .rt [1,3] 2 (r1)
def Yi(r0:bg)(r1:ak):Mo (ak):=
 .iB (r0.QD) (.stop)<|
 .rt [1,3] 2 (r1)
def Yj(r0:bg)(r1:ak):Mo (ak):=
 .iB (r0.vg) (.stop)<|
 .rt [1,3] 2 (r1)
def Yk(r0:bg)(r1:ak):Mo (ak):=
 .iB (r0.qm) (.stop)<|
 .rt [1,3] 2 (r1)
def Yl(r0:bg)(r1:ak):Mo (ak):=
 .iB (r0.qo) (.stop)<|
 .rt [1] 2 (r1)
def anv(p_w:ak):Mo (Bool):=
 .cl (UU p_w.au) fun r0 _=>
 .jk Tryz.f57 0 [1,1,1,0,1] 1 (fun r_=>⟨[(1,.ptr 0 0),(3,.ptr 1 0)],[cu r_,.box 104 (.agg ((bg.lf1 r0).map AV.lf))]⟩) ⟨[(1,.ptr 0 0),(3,.ptr 1 0),(9,.b_ r0.yR)],[.box 49 (.dat (ak.lf1 (ak.FZ p_w 0))),.box 104 (.agg ((bg.lf1 r0).map AV.lf))]⟩ (abV p_w r0) fun r1=>
 .jk Tryz.f57 0 [1,1,1,1,0,1] 1 (fun r_=>⟨[(1,.ptr 0 0),(3,.ptr 1 0)],[cu r_,.box 104 (.agg ((bg.lf1 r0).map AV.lf))]⟩) ⟨[(1,.ptr 0 0),(3,.ptr 1 0),(12,.b_ r0.QC)],[cu r1,.box 104 (.agg ((bg.lf1 r0).map AV.lf))]⟩ (abW r0 r1) fun r2=>
 .jk Tryz.f57 0 [1,1,1,1,1,0,1] 1 (fun r_=>⟨[(1,.ptr 0 0),(3,.ptr 1 0)],[cu r_,.box 104 (.agg ((bg.lf1 r0).map AV.lf))]⟩) ⟨[(1,.ptr 0 0),(3,.ptr 1 0),(19,.b_ r0.abg)],[cu r2,.box 104 (.agg ((bg.lf1 r0).map AV.lf))]⟩ (Ye r0 r2) fun r3=>
 .jk Tryz.f57 0 [1,1,1,1,1,1,0,1] 1 (fun r_=>⟨[(1,.ptr 0 0),(3,.ptr 1 0)],[cu r_,.box 104 (.agg ((bg.lf1 r0).map AV.lf))]⟩) ⟨[(1,.ptr 0 0),(3,.ptr 1 0),(23,.b_ r0.Xd)],[cu r3,.box 104 (.agg ((bg.lf1 r0).map AV.lf))]⟩ (Yf r0 r3) fun r4=>
 .jk Tryz.f57 0 [1,1,1,1,1,1,1,0,1] 1 (fun r_=>⟨[(1,.ptr 0 0),(3,.ptr 1 0)],[cu r_,.box 104 (.agg ((bg.lf1 r0).map AV.lf))]⟩) ⟨[(1,.ptr 0 0),(3,.ptr 1 0),(27,.b_ r0.yS)],[cu r4,.box 104 (.agg ((bg.lf1 r0).map AV.lf))]⟩ (Yg r0 r4) fun r5=>
 .jk Tryz.f57 0 [1,1,1,1,1,1,1,1,0,1] 1 (fun r_=>⟨[(1,.ptr 0 0),(3,.ptr 1 0)],[cu r_,.box 104 (.agg ((bg.lf1 r0).map AV.lf))]⟩) ⟨[(1,.ptr 0 0),(3,.ptr 1 0),(31,.b_ r0.kC)],[cu r5,.box 104 (.agg ((bg.lf1 r0).map AV.lf))]⟩ (Yh r0 r5) fun r6=>
 .jk Tryz.f57 0 [1,1,1,1,1,1,1,1,1,0,1] 1 (fun r_=>⟨[(1,.ptr 0 0),(3,.ptr 1 0)],[cu r_,.box 104 (.agg ((bg.lf1 r0).map AV.lf))]⟩) ⟨[(1,.ptr 0 0),(3,.ptr 1 0),(35,.b_ r0.QD)],[cu r6,.box 104 (.agg ((bg.lf1 r0).map AV.lf))]⟩ (Yi r0 r6) fun r7=>
 .jk Tryz.f57 0 [1,1,1,1,1,1,1,1,1,1,0,1] 1 (fun r_=>⟨[(1,.ptr 0 0),(3,.ptr 1 0)],[cu r_,.box 104 (.agg ((bg.lf1 r0).map AV.lf))]⟩) ⟨[(1,.ptr 0 0),(3,.ptr 1 0),(38,.b_ r0.vg)],[cu r7,.box 104 (.agg ((bg.lf1 r0).map AV.lf))]⟩ (Yj r0 r7) fun r8=>
 .jk Tryz.f57 0 [1,1,1,1,1,1,1,1,1,1,1,0,1] 1 (fun r_=>⟨[(1,.ptr 0 0),(3,.ptr 1 0)],[cu r_,.box 104 (.agg ((bg.lf1 r0).map AV.lf))]⟩) ⟨[(1,.ptr 0 0),(3,.ptr 1 0),(41,.b_ r0.qm)],[cu r8,.box 104 (.agg ((bg.lf1 r0).map AV.lf))]⟩ (Yk r0 r8) fun r9=>
 .jy [.kill 1] Tryz.f57 0 [1,1,1,1,1,1,1,1,1,1,1,1,0,1] 1 (.normal) (fun r_=>⟨[(1,.ptr 0 0)],[cu r_,.dead]⟩) ⟨[(1,.ptr 0 0),(44,.b_ r0.qo)],[cu r9,.dead]⟩ (Yl r0 r9) fun r10=>
 .cl (akL r10) fun r11 _=>
 .ret (aX 1) (r11)
def Q52(p_w:ak):Option (Bool):=Mo.den (anv p_w)
theorem akM(p_w:ak):FV (Q52 p_w) 57 [.dat (ak.lf1 p_w)] .b_:=bW Tryz.func57
abbrev QW(m:ah→Int→Option (Int)):Prop:=∀p_v p_most,FV (m p_v p_most) 274 [.dat (ah.lf1 p_v),.i_ p_most] .i_
abbrev abX(m:ah→Int→Int→Option (Int×Int)):Prop:=∀p_v p_b0 p_b1,FH (m p_v p_b0 p_b1) 323 [.dat (ah.lf1 p_v),.clo 324 [.ptr 0 0,.ptr 1 0]] [.box 3 (.dat [(.int .i64 p_b0)]),.box 3 (.dat [(.int .i64 p_b1)])] (fun _=>.tup []) (fun r=>[.box 3 (.dat [(.int .i64 r.1)]),.box 3 (.dat [(.int .i64 r.2)])])
abbrev abY(m:ah→Int→Int→Option (Bool×Int×Int)):Prop:=∀p_p p_b0 p_b1,FH (m p_p p_b0 p_b1) 324 [.dat (ah.lf1 p_p),.ptr 0 0,.ptr 1 0] [.box 3 (.dat [(.int .i64 p_b0)]),.box 3 (.dat [(.int .i64 p_b1)])] (fun r=>.b_ r.1) (fun r=>[.box 3 (.dat [(.int .i64 r.2.1)]),.box 3 (.dat [(.int .i64 r.2.2)])])
structure RB2 where
 m1:(p_v:ah)→(p_most:Int)→Option (Int)
 ok1:QW m1
 m2:(p_v:ah)→(p_b0:Int)→(p_b1:Int)→Option (Int×Int)
 ok2:abX m2
 m3:(p_p:ah)→(p_b0:Int)→(p_b1:Int)→Option (Bool×Int×Int)
 ok3:abY m3
def Jw(R_:RB2)(p_v:ah)(p_most:Int):Mo (Int):=
 .iB (1==p_most) (.ret (aX 1) (1))<|
 .cH [2,1] (R_.ok2 p_v 1 p_most) fun r0 _=>
 .ret (aX 1) (r0.1)
theorem abZ(R_:RB2):QW fun p_v p_most=>Mo.den (Jw R_ p_v p_most):=fun _ _=>bW Tryz.func274
def wQ(R_:RB2)(p_v:ah):(Int×Int×Int)→Mo ((Int×Int×Int)⊕(Int×Int)⊕(Int×Int)):=fun(v0,v1,v2)=>
 .iB (decide ((v0:Int)<(p_v.aU.length:Int))) (.gx ah.aS p_v.aU v0 fun x0 _=>
 .say [.at_ 14 2,.tod 20] ok0<|
 .cH [0,1] (R_.ok3 x0 v1 v2) fun r0 _=>
 .iB (!r0.1) (.rt [] 3 (.inr (.inl (r0.2.1,r0.2.2))))<|
 .rt [1,13,14,15] 3 (.inl (IntKind.wrap .i64 (v0+1),r0.2.1,r0.2.2)))<|
 .rt [] 3 (.inr (.inr ((v1,v2))))
def ab1(R_:RB2)(p_v:ah)(v0:Int)(v1:Int)(v2:Int):Option ((Int×Int)⊕(Int×Int)):=bP (fun v_=>(wQ R_ p_v v_).den) FU (v0,v1,v2)
def wR(R_:RB2)(p_v:ah):(Int×Int×Int)→Mo ((Int×Int×Int)⊕(Int×Int)⊕(Int×Int)):=fun(v0,v1,v2)=>
 .iB (decide ((v0:Int)<(p_v.aT.length:Int))) (.gx ay.aS p_v.aT v0 fun x0 _=>
 .say [.at_ 26 3,.tod 35] ok0<|
 .cH [0,1] (R_.ok3 x0.fValue v1 v2) fun r0 _=>
 .iB (!r0.1) (.rt [] 3 (.inr (.inl (r0.2.1,r0.2.2))))<|
 .rt [1,27,28,29] 3 (.inl (IntKind.wrap .i64 (v0+1),r0.2.1,r0.2.2)))<|
 .rt [] 3 (.inr (.inr ((v1,v2))))
def ab2(R_:RB2)(p_v:ah)(v0:Int)(v1:Int)(v2:Int):Option ((Int×Int)⊕(Int×Int)):=bP (fun v_=>(wR R_ p_v v_).den) FU (v0,v1,v2)
def Ns(R_:RB2)(p_v:ah)(p_b0:Int)(p_b1:Int):Mo (Int×Int):=
 .iB (p_v.au==6) (.nu p_v.aU ah.lf<|
 .l2m [.kill 2] Tryz.f323 2 [1,1,0,1,0,1,0] 0 (fun(v0,v1,v2)=>⟨[(1,.clo 324 [.ptr 0 0,.ptr 1 0]),(13,.lf (.rows 5 (p_v.aU.map ah.lf))),(14,.i_ (p_v.aU.length:Int)),(15,.i_ v0)],[.box 3 (.dat [(.int .i64 v1)]),.box 3 (.dat [(.int .i64 v2)]),.dead]⟩) .ret (fun o_=>⟨[],[.box 3 (.dat [(.int .i64 o_.1)]),.box 3 (.dat [(.int .i64 o_.2)]),.dead]⟩) (.exit 1) (fun o_=>⟨[],[.box 3 (.dat [(.int .i64 o_.1)]),.box 3 (.dat [(.int .i64 o_.2)]),.dead]⟩) (ab1 R_ p_v 0 p_b0 p_b1) (wQ R_ p_v) (0,p_b0,p_b1) (fun o0=>
 .rt [] 2 (o0.1,o0.2)) fun o1=>
 .rt [] 2 (o1.1,o1.2))<|
 .iB (p_v.au==5) (.nu p_v.aT ay.lf<|
 .l2m [.kill 2] Tryz.f323 2 [1,1,0,1,1,1,0,1,0] 0 (fun(v3,v4,v5)=>⟨[(1,.clo 324 [.ptr 0 0,.ptr 1 0]),(27,.lf (.rows 6 (p_v.aT.map ay.lf))),(28,.i_ (p_v.aT.length:Int)),(29,.i_ v3)],[.box 3 (.dat [(.int .i64 v4)]),.box 3 (.dat [(.int .i64 v5)]),.dead]⟩) .ret (fun o_=>⟨[],[.box 3 (.dat [(.int .i64 o_.1)]),.box 3 (.dat [(.int .i64 o_.2)]),.dead]⟩) (.exit 3) (fun o_=>⟨[],[.box 3 (.dat [(.int .i64 o_.1)]),.box 3 (.dat [(.int .i64 o_.2)]),.dead]⟩) (ab2 R_ p_v 0 p_b0 p_b1) (wR R_ p_v) (0,p_b0,p_b1) (fun o2=>
 .rt [] 2 (o2.1,o2.2)) fun o3=>
 .rt [] 2 (o3.1,o3.2))<|
 .ret ⟨[.kill 2],[],[],2⟩ (p_b0,p_b1)
theorem agY(R_:RB2):abX fun p_v p_b0 p_b1=>Mo.den (Ns R_ p_v p_b0 p_b1):=fun _ _ _=>dX Tryz.func323
def Jy(R_:RB2)(p_p:ah)(p_b0:Int)(p_b1:Int):Mo (Bool×Int×Int):=
 .say [.order [(true,0),(true,1),(true,2),(true,3),(true,4),(false,5),(true,6),(false,7)] (some 7) []] ok0<|
 .cl (R_.ok1 p_p (IntKind.wrap .i64 (p_b1-p_b0))) fun r0 _=>
 .ret ⟨[.kill 2],[0],[],2⟩ (decide ((IntKind.wrap .i64 (p_b0+r0):Int)<p_b1),IntKind.wrap .i64 (p_b0+r0),p_b1)
theorem ab3(R_:RB2):abY fun p_p p_b0 p_b1=>Mo.den (Jy R_ p_p p_b0 p_b1):=fun _ _ _=>dX Tryz.func324
def nU:Nat→RB2
 |0=>{ m1:=fun p_v p_most=>none,ok1:=fun _ _ _ h=>(by cases h),m2:=fun p_v p_b0 p_b1=>none,ok2:=fun _ _ _ _ h=>(by cases h),m3:=fun p_p p_b0 p_b1=>none,ok3:=fun _ _ _ _ h=>(by cases h) }
 |n_+1=>{ m1:=fun p_v p_most=>Mo.den (Jw (nU n_) p_v p_most),ok1:=abZ (nU n_),m2:=fun p_v p_b0 p_b1=>Mo.den (Ns (nU n_) p_v p_b0 p_b1),ok2:=agY (nU n_),m3:=fun p_p p_b0 p_b1=>Mo.den (Jy (nU n_) p_p p_b0 p_b1),ok3:=ab3 (nU n_) }
def anw(p_v:ah)(p_most:Int):Option (Int):=(nU FU).m1 p_v p_most
theorem agZ:QW anw:=(nU FU).ok1
def ab4(p_v:ah):Mo (Int):=
 .cl (agZ p_v 1025) fun r0 _=>
 .ret (aX 1) (r0)
def akN(p_v:ah):Option (Int):=Mo.den (ab4 p_v)
theorem ag0(p_v:ah):FV (akN p_v) 203 [.dat (ah.lf1 p_v)] .i_:=bW Tryz.func203
abbrev QX(m:ah→Int→Option (Int)):Prop:=∀p_v p_most,FV (m p_v p_most) 275 [.dat (ah.lf1 p_v),.i_ p_most] .i_
abbrev ab5(m:ah→Int→Int→Option (Int×Int)):Prop:=∀p_v p_b0 p_b1,FH (m p_v p_b0 p_b1) 323 [.dat (ah.lf1 p_v),.clo 325 [.ptr 0 0,.ptr 1 0]] [.box 3 (.dat [(.int .i64 p_b0)]),.box 3 (.dat [(.int .i64 p_b1)])] (fun _=>.tup []) (fun r=>[.box 3 (.dat [(.int .i64 r.1)]),.box 3 (.dat [(.int .i64 r.2)])])
abbrev ab6(m:ah→Int→Int→Option (Bool×Int×Int)):Prop:=∀p_p p_b0 p_b1,FH (m p_p p_b0 p_b1) 325 [.dat (ah.lf1 p_p),.ptr 0 0,.ptr 1 0] [.box 3 (.dat [(.int .i64 p_b0)]),.box 3 (.dat [(.int .i64 p_b1)])] (fun r=>.b_ r.1) (fun r=>[.box 3 (.dat [(.int .i64 r.2.1)]),.box 3 (.dat [(.int .i64 r.2.2)])])
structure RB3 where
 m1:(p_v:ah)→(p_most:Int)→Option (Int)
 ok1:QX m1
 m2:(p_v:ah)→(p_b0:Int)→(p_b1:Int)→Option (Int×Int)
 ok2:ab5 m2
 m3:(p_p:ah)→(p_b0:Int)→(p_b1:Int)→Option (Bool×Int×Int)
 ok3:ab6 m3
def Jz(R_:RB3)(p_v:ah)(p_most:Int):Mo (Int):=
 .iB (p_most==1) (.ret (aX 1) (1))<|
 .cH [2,1] (R_.ok2 p_v 0 p_most) fun r0 _=>
 .ret (aX 1) (IntKind.wrap .i64 (1+r0.1))
theorem ab7(R_:RB3):QX fun p_v p_most=>Mo.den (Jz R_ p_v p_most):=fun _ _=>bW Tryz.func275
def wS(R_:RB3)(p_v:ah):(Int×Int×Int)→Mo ((Int×Int×Int)⊕(Int×Int)⊕(Int×Int)):=fun(v0,v1,v2)=>
 .iB (decide ((v0:Int)<(p_v.aU.length:Int))) (.gx ah.aS p_v.aU v0 fun x0 _=>
 .say [.at_ 14 2,.tod 20] ok0<|
 .cH [0,1] (R_.ok3 x0 v1 v2) fun r0 _=>
 .iB (!r0.1) (.rt [] 3 (.inr (.inl (r0.2.1,r0.2.2))))<|
 .rt [1,13,14,15] 3 (.inl (IntKind.wrap .i64 (v0+1),r0.2.1,r0.2.2)))<|
 .rt [] 3 (.inr (.inr ((v1,v2))))
def ab8(R_:RB3)(p_v:ah)(v0:Int)(v1:Int)(v2:Int):Option ((Int×Int)⊕(Int×Int)):=bP (fun v_=>(wS R_ p_v v_).den) FU (v0,v1,v2)
def wU(R_:RB3)(p_v:ah):(Int×Int×Int)→Mo ((Int×Int×Int)⊕(Int×Int)⊕(Int×Int)):=fun(v0,v1,v2)=>
 .iB (decide ((v0:Int)<(p_v.aT.length:Int))) (.gx ay.aS p_v.aT v0 fun x0 _=>
 .say [.at_ 26 3,.tod 35] ok0<|
 .cH [0,1] (R_.ok3 x0.fValue v1 v2) fun r0 _=>
 .iB (!r0.1) (.rt [] 3 (.inr (.inl (r0.2.1,r0.2.2))))<|
 .rt [1,27,28,29] 3 (.inl (IntKind.wrap .i64 (v0+1),r0.2.1,r0.2.2)))<|
 .rt [] 3 (.inr (.inr ((v1,v2))))
def ab9(R_:RB3)(p_v:ah)(v0:Int)(v1:Int)(v2:Int):Option ((Int×Int)⊕(Int×Int)):=bP (fun v_=>(wU R_ p_v v_).den) FU (v0,v1,v2)
def Nu(R_:RB3)(p_v:ah)(p_b0:Int)(p_b1:Int):Mo (Int×Int):=
 .iB (p_v.au==6) (.nu p_v.aU ah.lf<|
 .l2m [.kill 2] Tryz.f323 2 [1,1,0,1,0,1,0] 0 (fun(v0,v1,v2)=>⟨[(1,.clo 325 [.ptr 0 0,.ptr 1 0]),(13,.lf (.rows 5 (p_v.aU.map ah.lf))),(14,.i_ (p_v.aU.length:Int)),(15,.i_ v0)],[.box 3 (.dat [(.int .i64 v1)]),.box 3 (.dat [(.int .i64 v2)]),.dead]⟩) .ret (fun o_=>⟨[],[.box 3 (.dat [(.int .i64 o_.1)]),.box 3 (.dat [(.int .i64 o_.2)]),.dead]⟩) (.exit 1) (fun o_=>⟨[],[.box 3 (.dat [(.int .i64 o_.1)]),.box 3 (.dat [(.int .i64 o_.2)]),.dead]⟩) (ab8 R_ p_v 0 p_b0 p_b1) (wS R_ p_v) (0,p_b0,p_b1) (fun o0=>
 .rt [] 2 (o0.1,o0.2)) fun o1=>
 .rt [] 2 (o1.1,o1.2))<|
 .iB (p_v.au==5) (.nu p_v.aT ay.lf<|
 .l2m [.kill 2] Tryz.f323 2 [1,1,0,1,1,1,0,1,0] 0 (fun(v3,v4,v5)=>⟨[(1,.clo 325 [.ptr 0 0,.ptr 1 0]),(27,.lf (.rows 6 (p_v.aT.map ay.lf))),(28,.i_ (p_v.aT.length:Int)),(29,.i_ v3)],[.box 3 (.dat [(.int .i64 v4)]),.box 3 (.dat [(.int .i64 v5)]),.dead]⟩) .ret (fun o_=>⟨[],[.box 3 (.dat [(.int .i64 o_.1)]),.box 3 (.dat [(.int .i64 o_.2)]),.dead]⟩) (.exit 3) (fun o_=>⟨[],[.box 3 (.dat [(.int .i64 o_.1)]),.box 3 (.dat [(.int .i64 o_.2)]),.dead]⟩) (ab9 R_ p_v 0 p_b0 p_b1) (wU R_ p_v) (0,p_b0,p_b1) (fun o2=>
 .rt [] 2 (o2.1,o2.2)) fun o3=>
 .rt [] 2 (o3.1,o3.2))<|
 .ret ⟨[.kill 2],[],[],2⟩ (p_b0,p_b1)
theorem ag1(R_:RB3):ab5 fun p_v p_b0 p_b1=>Mo.den (Nu R_ p_v p_b0 p_b1):=fun _ _ _=>dX Tryz.func323
def JA(R_:RB3)(p_p:ah)(p_b0:Int)(p_b1:Int):Mo (Bool×Int×Int):=
 .say [.order [(true,0),(true,1),(true,2),(true,3),(false,4),(true,5),(false,6)] (some 6) []] ok0<|
 .cl (R_.ok1 p_p (IntKind.wrap .i64 (p_b1-1))) fun r0 _=>
 .ret ⟨[.kill 2],[0],[],2⟩ (decide (((if r0 > p_b0 then r0 else p_b0):Int)<(IntKind.wrap .i64 (p_b1-1))),(if r0 > p_b0 then r0 else p_b0),p_b1)
theorem acd(R_:RB3):ab6 fun p_p p_b0 p_b1=>Mo.den (JA R_ p_p p_b0 p_b1):=fun _ _ _=>dX Tryz.func325
def nV:Nat→RB3
 |0=>{ m1:=fun p_v p_most=>none,ok1:=fun _ _ _ h=>(by cases h),m2:=fun p_v p_b0 p_b1=>none,ok2:=fun _ _ _ _ h=>(by cases h),m3:=fun p_p p_b0 p_b1=>none,ok3:=fun _ _ _ _ h=>(by cases h) }
 |n_+1=>{ m1:=fun p_v p_most=>Mo.den (Jz (nV n_) p_v p_most),ok1:=ab7 (nV n_),m2:=fun p_v p_b0 p_b1=>Mo.den (Nu (nV n_) p_v p_b0 p_b1),ok2:=ag1 (nV n_),m3:=fun p_p p_b0 p_b1=>Mo.den (JA (nV n_) p_p p_b0 p_b1),ok3:=acd (nV n_) }
def anx(p_v:ah)(p_most:Int):Option (Int):=(nV FU).m1 p_v p_most
theorem ag2:QX anx:=(nV FU).ok1
def ace(p_v:ah):Mo (Int):=
 .cl (ag2 p_v 17) fun r0 _=>
 .ret (aX 1) (r0)
def akO(p_v:ah):Option (Int):=Mo.den (ace p_v)
theorem ag3(p_v:ah):FV (akO p_v) 204 [.dat (ah.lf1 p_v)] .i_:=bW Tryz.func204
def wV(p_s:ByteArray):Mo (Bool):=
 .oV 4003 (decide (((p_s.size:Int):Int)<1)) [0,11] 0 (decide ((32:Int)<(p_s.size:Int)))
def wW(p_s:ByteArray)(r0:Bool):Mo (Bool):=
 .iG 4008 (r0) (.rt [0,16] 0 (true))<|
 .ask (iw p_s 0) fun b0 h0=>
 .say [.byt b0] (ok1 (dL h0))<|
 .rt [0,16] 0 ((b0.toNat:Int)==36)
def Gl(p_s:ByteArray)(v0:Int):Mo (Bool):=
 .ask (iw p_s v0) fun b0 h0=>
 .say [.byt b0] (ok1 (dL h0))<|
 .iG 14004 (decide (((b0.toNat:Int):Int)<33)) (.rt [0,3,18,19,31] 0 (true))<|
 .ask (iw p_s v0) fun b1 h1=>
 .say [.byt b1] (ok1 (dL h1))<|
 .rt [0,3,18,19,31] 0 (decide ((126:Int)<(b1.toNat:Int)))
def Gm(p_s:ByteArray)(r0:Bool)(v0:Int):Mo (Bool):=
 .iG 14010 (r0) (.rt [0,18,19,37] 0 (true))<|
 .ask (iw p_s v0) fun b0 h0=>
 .say [.byt b0] (ok1 (dL h0))<|
 .rt [0,18,19,37] 0 ((b0.toNat:Int)==46)
def tJ(p_s:ByteArray):(Int)→Mo ((Int)⊕(Unit⊕Unit)):=fun(v0)=>
 .iB (decide ((v0:Int)<(p_s.size:Int))) (.sf Tryz.f327 0 [1,1,0,1,0,0,1,1,0,0,1,0] 0 10 6 [(0,.lf (.str p_s)),(3,.i_ v0),(18,.i_ (p_s.size:Int)),(19,.i_ v0)] [] 31 (Gl p_s v0) fun r0=>
 .sk Tryz.f327 0 [1,1,0,1,0,0,1,1,0,0,1,0] 10 6 6 (fun r_=>⟨[(0,.lf (.str p_s)),(18,.i_ (p_s.size:Int)),(19,.i_ v0),(37,.b_ r_)],[]⟩) ⟨[(0,.lf (.str p_s)),(3,.i_ v0),(18,.i_ (p_s.size:Int)),(19,.i_ v0),(31,.b_ r0)],[]⟩ (Gm p_s r0 v0) fun r1=>
 .iB (r1) (.rt [2] 0 (.inr (.inl ())))<|
 .rt [0,18,19] 0 (.inl (IntKind.wrap .i64 (v0+1))))<|
 .rt [] 0 (.inr (.inr (())))
def UW(p_s:ByteArray)(v0:Int):Option (Unit⊕Unit):=bP (fun v_=>(tJ p_s v_).den) FU (v0)
def ajc(p_s:ByteArray):Mo (Bool):=
 .sf Tryz.f327 0 [1,0,0] 0 8 1 [(0,.lf (.str p_s))] [] 11 (wV p_s) fun r0=>
 .sb Tryz.f327 0 [1,0,0] 8 5 1 [(0,.lf (.str p_s))] [] 11 16 r0 (wW p_s r0) fun r1=>
 .iB (r1) (.ret (aX 1) (false))<|
 .l2m [] Tryz.f327 0 [1,1,0,1,0] 0 (fun(v0)=>⟨[(0,.lf (.str p_s)),(18,.i_ (p_s.size:Int)),(19,.i_ v0)],[]⟩) .ret (fun _=>⟨[(2,.b_ false)],[]⟩) (.exit 0) (fun _=>⟨[],[]⟩) (UW p_s 0) (tJ p_s) (0) (fun o0=>
 .ret (aX 1) (false)) fun o1=>
 .ret (aX 1) (true)
def Q39(p_s:ByteArray):Option (Bool):=Mo.den (ajc p_s)
theorem akP(p_s:ByteArray):FV (Q39 p_s) 327 [.lf (.str p_s)] .b_:=bW Tryz.func327
abbrev QY(m:ah→Option (Bool)):Prop:=∀p_v,FV (m p_v) 205 [.dat (ah.lf1 p_v)] .b_
abbrev acf(m:(List ay)→Option (Bool)):Prop:=∀p_l,FV (m p_l) 277 [.lf (.rows 6 (p_l.map ay.lf))] .b_
structure RB4 where
 m1:(p_v:ah)→Option (Bool)
 ok1:QY m1
 m2:(p_l:List ay)→Option (Bool)
 ok2:acf m2
def Nv(R_:RB4)(p_v:ah):Mo (Bool):=
 .oV 4003 (p_v.au==3) [1,14] 1 (p_v.au==9)
def Nw(R_:RB4)(p_v:ah)(r0:Bool):Mo (Bool):=
 .oV 4008 (r0) [1,19] 1 (p_v.au==10)
def Gn(R_:RB4)(p_v:ah)(r0:Bool):Mo (Unit):=
 .rt [1,3] 1 ()
def Gp(R_:RB4)(p_v:ah)(r0:Bool):Mo (Bool):=
 .oV 6003 (p_v.au==4) [1,3,27] 1 (p_v.au==7)
def Gq(R_:RB4)(p_v:ah)(r0:Bool)(r1:Bool):Mo (Bool):=
 .oV 6008 (r0) [1,3,32] 1 (p_v.au==8)
def Gs(R_:RB4)(p_v:ah)(r0:Bool)(r1:Bool):Mo (Unit):=
 .rt [1,3,4] 1 ()
def Gt(R_:RB4)(p_v:ah)(r0:Bool)(r1:Bool):Mo (Bool):=
 .aV 8002 (!r1) [1,4,39] 1 (p_v.dD != 0)
def Gu(R_:RB4)(p_v:ah)(r0:Bool)(r1:Bool):Mo (Bool):=
 .iG 8007 (r1) (.rt [1,48] 1 (true))<|
 .aV 8010 (!r0) [1,48] 1 (!decide ((p_v.fText:ByteArray)=(⟨#[]⟩:ByteArray)))
def Gv(R_:RB4)(p_v:ah):Mo (Bool):=
 .iG 12003 (p_v.au != 6) (.nu p_v.aU ah.lf<|
 .rt [1,57] 1 (decide ((0:Int)<(p_v.aU.length:Int))))<|
 .rt [1,57] 1 (false)
def Gw(R_:RB4)(p_v:ah)(r0:Bool):Mo (Bool):=
 .iG 12009 (r0) (.rt [1,68] 1 (true))<|
 .iG 12013 (p_v.au != 5) (.nu p_v.aT ay.lf<|
 .rt [1,68] 1 (decide ((0:Int)<(p_v.aT.length:Int))))<|
 .rt [1,68] 1 (false)
def Gx(R_:RB4)(p_v:ah):Mo (Bool):=
 .iB (p_v.au==1) (.rt [1,70,71] 1 (p_v.au==1))<|
 .iB (p_v.au==2) (.rt [1,70,71] 1 (p_v.au==2))<|
 .iB (p_v.au==11) (.rt [1,70,71] 1 (p_v.au==11))<|
 .rt [1,70,71] 1 (p_v.au==3)
def Gy(R_:RB4)(p_v:ah):Mo (Bool):=
 .iG 30003 (p_v.dD==0) (.ret ⟨[.kill 0],[2],[],1⟩ (true))<|
 .ret ⟨[.kill 0],[2],[],1⟩ (p_v.dD==1)
def Gz(R_:RB4)(p_v:ah):Mo (Bool):=
 .iG 38004 (decide (((p_v.fText.size:Int):Int)≤4096)) (.cl (UO p_v.fText) fun r0 _=>
 .ret ⟨[.kill 0],[2],[],1⟩ (r0))<|
 .ret ⟨[.kill 0],[2],[],1⟩ (false)
def tK(R_:RB4)(p_v:ah):(Int)→Mo ((Int)⊕(Unit⊕Unit)):=fun(v0)=>
 .iB (decide ((v0:Int)<(p_v.aU.length:Int))) (.gx ah.aS p_v.aU v0 fun x0 _=>
 .cl (R_.ok1 x0) fun r0 _=>
 .iB (!r0) (.rt [2] 1 (.inr (.inl ())))<|
 .rt [117,118,119] 1 (.inl (IntKind.wrap .i64 (v0+1))))<|
 .rt [] 1 (.inr (.inr (())))
def UY(R_:RB4)(p_v:ah)(v0:Int):Option (Unit⊕Unit):=bP (fun v_=>(tK R_ p_v v_).den) FU (v0)
def UZ(R_:RB4)(p_v:ah):Mo (Bool):=
 .sf Tryz.f205 0 [1,0] 0 8 1 [(1,.ptr 0 0)] [aZ p_v] 14 (Nv R_ p_v) fun r0=>
 .sb Tryz.f205 0 [1,0] 8 5 1 [(1,.ptr 0 0)] [aZ p_v] 14 19 r0 (Nw R_ p_v r0) fun r1=>
 .sk Tryz.f205 0 [1,0] 13 1 1 (fun r_=>⟨[(1,.ptr 0 0),(3,.b_ r1)],[aZ p_v]⟩) ⟨[(1,.ptr 0 0),(19,.b_ r1)],[aZ p_v]⟩ (Gn R_ p_v r1) fun r2=>
 .sf Tryz.f205 0 [1,1,0] 0 8 2 [(1,.ptr 0 0),(3,.b_ r1)] [aZ p_v] 27 (Gp R_ p_v r1) fun r3=>
 .sb Tryz.f205 0 [1,1,0] 8 5 2 [(1,.ptr 0 0),(3,.b_ r1)] [aZ p_v] 27 32 r3 (Gq R_ p_v r3 r1) fun r4=>
 .sk Tryz.f205 0 [1,1,0] 13 1 2 (fun r_=>⟨[(1,.ptr 0 0),(3,.b_ r1),(4,.b_ r4)],[aZ p_v]⟩) ⟨[(1,.ptr 0 0),(3,.b_ r1),(32,.b_ r4)],[aZ p_v]⟩ (Gs R_ p_v r4 r1) fun r5=>
 .sk Tryz.f205 0 [1,1,1,0,0] 0 7 3 (fun r_=>⟨[(1,.ptr 0 0),(4,.b_ r4),(39,.b_ r_)],[aZ p_v]⟩) ⟨[(1,.ptr 0 0),(3,.b_ r1),(4,.b_ r4)],[aZ p_v]⟩ (Gt R_ p_v r4 r1) fun r6=>
 .sk Tryz.f205 0 [1,1,1,0,0] 7 9 3 (fun r_=>⟨[(1,.ptr 0 0),(48,.b_ r_)],[aZ p_v]⟩) ⟨[(1,.ptr 0 0),(4,.b_ r4),(39,.b_ r6)],[aZ p_v]⟩ (Gu R_ p_v r4 r6) fun r7=>
 .iB (r7) (.ret (aX 1) (false))<|
 .sf Tryz.f205 0 [1,1,1,1,0,0] 0 9 5 [(1,.ptr 0 0)] [aZ p_v] 57 (Gv R_ p_v) fun r8=>
 .sb Tryz.f205 0 [1,1,1,1,0,0] 9 11 5 [(1,.ptr 0 0)] [aZ p_v] 57 68 r8 (Gw R_ p_v r8) fun r9=>
 .iB (r9) (.ret (aX 1) (false))<|
 .jk Tryz.f205 0 [1,1,1,1,1,0,1,0,0,1] 1 (fun r_=>⟨[(1,.ptr 0 0),(70,.i_ p_v.au),(71,.b_ r_)],[aZ p_v]⟩) ⟨[(1,.ptr 0 0),(70,.i_ p_v.au),(71,.lf (.bool (p_v.au==1)))],[aZ p_v]⟩ (Gx R_ p_v) fun r10=>
 .iB (r10) (.ret (aX 1) (true))<|
 .iB (p_v.au==9) (.jk Tryz.f205 0 [1,1,1,1,1,0,1,0,1,1,1,0,0] 35 (fun r_=>⟨[(2,.b_ r_)],[.dead]⟩) ⟨[(1,.ptr 0 0)],[aZ p_v]⟩ (Gy R_ p_v) fun r11=>
 .ret (aX 1) (r11))<|
 .iB (p_v.au==10) (.ret (aX 1) (decide ((0:Int)≤p_v.dD)))<|
 .iB (p_v.au==4) (.jk Tryz.f205 0 [1,1,1,1,1,0,1,0,1,1,1,1,1,1,1,0,0] 43 (fun r_=>⟨[(2,.b_ r_)],[.dead]⟩) ⟨[(1,.ptr 0 0)],[aZ p_v]⟩ (Gz R_ p_v) fun r12=>
 .ret (aX 1) (r12))<|
 .iB (p_v.au==7) (.ret (aX 1) (decide (((p_v.fText.size:Int):Int)≤4096)))<|
 .iB (p_v.au==8) (.ret (aX 1) ((p_v.fText.size:Int)==12))<|
 .iB (p_v.au==6) (.nu p_v.aU ah.lf<|
 .l2m [.kill 0] Tryz.f205 0 [1,1,1,1,1,0,1,0,1,1,1,1,1,1,1,1,1,1,1,1,1,0,0,1,0] 0 (fun(v0)=>⟨[(117,.lf (.rows 5 (p_v.aU.map ah.lf))),(118,.i_ (p_v.aU.length:Int)),(119,.i_ v0)],[.dead]⟩) .ret (fun _=>⟨[(2,.b_ false)],[.dead]⟩) (.exit 1) (fun _=>⟨[],[.dead]⟩) (UY R_ p_v 0) (tK R_ p_v) (0) (fun o0=>
 .ret (aX 1) (false)) fun o1=>
 .ret (aX 1) (true))<|
 .iB (p_v.au==5) (.cl (R_.ok2 p_v.aT) fun r13 _=>
 .ret (aX 1) (r13))<|
 .ret (aX 1) (false)
theorem ag4(R_:RB4):QY fun p_v=>Mo.den (UZ R_ p_v):=fun _=>bW Tryz.func205
def Ny(R_:RB4)(m1575:List (ByteArray×Bool))(p_l:List ay)(v0:Int)(x0:ay):Mo (Bool):=
 .cl (akP x0.fName) fun r0 _=>
 .iG 12004 (!r0) (.rt [3,5,7,8,9,22] 2 (true))<|
 .say [.row [.bool (BR m1575 x0.fName false)]] (okc (rfl:Tryz.prog=Tryz.prog) (ok1 (QI _ _ _:lT (m1575.map mvB) x0.fName (.bool false)=(.bool (BR m1575 x0.fName false)))))<|
 .rt [3,5,7,8,9,22] 2 (BR m1575 x0.fName false)
def Nz(R_:RB4)(m1575:List (ByteArray×Bool))(p_l:List ay)(r0:Bool)(v0:Int)(x0:ay):Mo (Bool):=
 .iG 12010 (r0) (.rt [3,5,7,8,9,28] 2 (true))<|
 .cl (R_.ok1 x0.fValue) fun r1 _=>
 .rt [3,5,7,8,9,28] 2 (!r1)
def tN(R_:RB4)(p_l:List ay):(Int×(List (ByteArray×Bool)))→Mo ((Int×(List (ByteArray×Bool)))⊕(Unit⊕Unit)):=fun(v0,m1575)=>
 .iB (decide ((v0:Int)<(p_l.length:Int))) (.gx ay.aS p_l v0 fun x0 _=>
 .sf Tryz.f277 0 [1,1,0,1,0,0,1,1,0,0,1,0,0] 0 10 5 [(3,.mp 0),(5,.ptr 1 0),(7,.lf (.rows 6 (p_l.map ay.lf))),(8,.i_ (p_l.length:Int)),(9,.i_ v0)] [.map Tryz.prog 9 4 (m1575.map mvB),.box 115 (.agg ((ay.lf1 x0).map AV.lf))] 22 (Ny R_ m1575 p_l v0 x0) fun r0=>
 .sb Tryz.f277 0 [1,1,0,1,0,0,1,1,0,0,1,0,0] 10 6 5 [(3,.mp 0),(5,.ptr 1 0),(7,.lf (.rows 6 (p_l.map ay.lf))),(8,.i_ (p_l.length:Int)),(9,.i_ v0)] [.map Tryz.prog 9 4 (m1575.map mvB),.box 115 (.agg ((ay.lf1 x0).map AV.lf))] 22 28 r0 (Nz R_ m1575 p_l r0 v0 x0) fun r1=>
 .iB (r1) (.ret ⟨[.kill 0],[2],[],1⟩ (.inr (.inl ())))<|
 .say [] (ok1 (rfl:Tryz.prog=Tryz.prog))<|
 .grd (m1575.length<maxLen) fun h0=>
 .say [] (ok1 (by simpa using h0:(m1575.map mvB).length<maxLen))<|
 .rt [3,7,8,9] 1 (.inl (IntKind.wrap .i64 (v0+1),(x0.fName,true)::m1575)))<|
 .ret ⟨[.kill 0],[],[],1⟩ (.inr (.inr (())))
def U0(R_:RB4)(p_l:List ay)(v0:Int)(m1575:List (ByteArray×Bool)):Option (Unit⊕Unit):=bP (fun v_=>(tN R_ p_l v_).den) FU (v0,m1575)
def U1(R_:RB4)(p_l:List ay):Mo (Bool):=
 .nu p_l ay.lf<|
 .l2m [] Tryz.f277 0 [1,1,0,1,0] 0 (fun(v0,m1575)=>⟨[(3,.mp 0),(7,.lf (.rows 6 (p_l.map ay.lf))),(8,.i_ (p_l.length:Int)),(9,.i_ v0)],[.map Tryz.prog 9 4 (m1575.map mvB)]⟩) .ret (fun _=>⟨[(2,.b_ false)],[.dead]⟩) (.exit 0) (fun _=>⟨[],[.dead]⟩) (U0 R_ p_l 0 ([]:List (ByteArray×Bool))) (tN R_ p_l) (0,([]:List (ByteArray×Bool))) (fun o0=>
 .ret (aX 1) (false)) fun o1=>
 .ret (aX 1) (true)
theorem ag5(R_:RB4):acf fun p_l=>Mo.den (U1 R_ p_l):=fun _=>bW Tryz.func277
def rO:Nat→RB4
 |0=>{ m1:=fun p_v=>none,ok1:=fun _ _ h=>(by cases h),m2:=fun p_l=>none,ok2:=fun _ _ h=>(by cases h) }
 |n_+1=>{ m1:=fun p_v=>Mo.den (UZ (rO n_) p_v),ok1:=ag4 (rO n_),m2:=fun p_l=>Mo.den (U1 (rO n_) p_l),ok2:=ag5 (rO n_) }
def Q12(p_v:ah):Option (Bool):=(rO FU).m1 p_v
theorem akQ:QY Q12:=(rO FU).ok1
def acg(p_v:ah):Mo (Bool):=
 .cl (ag0 p_v) fun r0 _=>
 .iG 4003 (decide ((r0:Int)≤1024)) (.cl (ag3 p_v) fun r1 _=>
 .iG 4008 (decide ((r1:Int)≤16)) (.cl (akQ p_v) fun r2 _=>
 .ret (aX 1) (r2))<|
 .ret (aX 1) (false))<|
 .ret (aX 1) (false)
def akR(p_v:ah):Option (Bool):=Mo.den (acg p_v)
theorem tV(p_v:ah):FV (akR p_v) 132 [.dat (ah.lf1 p_v)] .b_:=bW Tryz.func132
def Ym(p_v:ah):Mo (Bool):=
 .iG 4003 (p_v.au != 6) (.rt [1,2,10] 1 (p_v.au != 1))<|
 .stop
def Yn(p_v:ah)(r0:Bool):Mo (Bool):=
 .iG 4008 (r0) (.rt [1,2,15] 1 (p_v.au != 11))<|
 .stop
def QZ(p_v:ah)(r0:Bool):Mo (Bool):=
 .iG 4013 (r0) (.cl (tV p_v) fun r1 _=>
 .ret ⟨[.kill 0],[2,19],[],1⟩ (r1))<|
 .stop
def akS(p_v:ah):Mo (Bool):=
 .sf Tryz.f110 0 [1,0] 0 8 1 [(1,.ptr 0 0),(2,.b_ false)] [aZ p_v] 10 (Ym p_v) fun r0=>
 .sb Tryz.f110 0 [1,0] 8 5 1 [(1,.ptr 0 0),(2,.b_ false)] [aZ p_v] 10 15 r0 (Yn p_v r0) fun r1=>
 .sk Tryz.f110 0 [1,0] 13 4 1 (fun r_=>⟨[(2,.b_ false),(19,.b_ r_)],[.dead]⟩) ⟨[(1,.ptr 0 0),(2,.b_ false),(15,.b_ r1)],[aZ p_v]⟩ (QZ p_v r1) fun r2=>
 .sk Tryz.f110 0 [1,0] 17 1 1 (fun r_=>⟨[(2,.b_ r2)],[.dead]⟩) ⟨[(2,.b_ false),(19,.b_ r2)],[.dead]⟩ (fU r2) fun r3=>
 .ret (aX 1) (r2)
def aoI(p_v:ah):Option (Bool):=Mo.den (akS p_v)
theorem ag6(p_v:ah):FV (aoI p_v) 110 [.dat (ah.lf1 p_v)] .b_:=bW Tryz.func110
def akT(p_x:Int):Mo (Bool):=
 .ret (aX 1) (p_x != p_x)
def aoJ(p_x:Int):Option (Bool):=Mo.den (akT p_x)
theorem U2(p_x:Int):FV (aoJ p_x) 329 [.i_ p_x] .b_:=bW Tryz.func329
def akU(p_x:Int)(p_y:Int):Mo (Int):=
 .cl (U2 p_x) fun r0 _=>
 .cl (U2 p_y) fun r1 _=>
 .iB (r0) (.stop)<|
 .iB (r1) (.stop)<|
 .iB (decide ((p_x:Int)<p_y)) (.ret (aX 1) ((-1)))<|
 .iB (decide ((p_y:Int)<p_x)) (.stop)<|
 .ret (aX 1) (0)
def aoK(p_x:Int)(p_y:Int):Option (Int):=Mo.den (akU p_x p_y)
theorem ag7(p_x:Int)(p_y:Int):FV (aoK p_x p_y) 298 [.i_ p_x,.i_ p_y] .i_:=bW Tryz.func298
abbrev Rf(m:ah→ah→Option (Int)):Prop:=∀p_a p_b,FV (m p_a p_b) 254 [.dat (ah.lf1 p_a),.dat (ah.lf1 p_b)] .i_
structure RB5 where
 m1:(p_a:ah)→(p_b:ah)→Option (Int)
 ok1:Rf m1
def Yo(R_:RB5)(p_a:ah)(p_b:ah):Mo (Bool):=
 .iB (p_a.au==3) (.rt [2,3,21,22] 2 (p_a.au==3))<|
 .stop
def ach(R_:RB5)(p_a:ah)(p_b:ah):Mo (Int):=
 .iB (p_a.au != p_b.au) (.stop)<|
 .jk Tryz.f254 0 [1,1,0,1,0,0,1] 1 (fun r_=>⟨[(2,.ptr 0 0),(3,.ptr 1 0),(21,.i_ p_a.au),(22,.b_ r_)],[aZ p_a,aZ p_b]⟩) ⟨[(2,.ptr 0 0),(3,.ptr 1 0),(21,.i_ p_a.au),(22,.lf (.bool (p_a.au==3)))],[aZ p_a,aZ p_b]⟩ (Yo R_ p_a p_b) fun r0=>
 .iB (r0) (.cl (ag7 p_a.dD p_b.dD) fun r1 _=>
 .ret (aX 1) (r1))<|
 .stop
theorem aci(R_:RB5):Rf fun p_a p_b=>Mo.den (ach R_ p_a p_b):=fun _ _=>bW Tryz.func254
def U3:Nat→RB5
 |0=>{ m1:=fun p_a p_b=>none,ok1:=fun _ _ _ h=>(by cases h) }
 |n_+1=>{ m1:=fun p_a p_b=>Mo.den (ach (U3 n_) p_a p_b),ok1:=aci (U3 n_) }
def aoL(p_a:ah)(p_b:ah):Option (Int):=(U3 FU).m1 p_a p_b
theorem ag8:Rf aoL:=(U3 FU).ok1
def akV(p_a:ah)(p_b:ah):Mo (Bool):=
 .cl (ag8 p_a p_b) fun r0 _=>
 .ret (aX 1) (r0==0)
def anz(p_a:ah)(p_b:ah):Option (Bool):=Mo.den (akV p_a p_b)
theorem ag9(p_a:ah)(p_b:ah):FV (anz p_a p_b) 178 [.dat (ah.lf1 p_a),.dat (ah.lf1 p_b)] .b_:=bW Tryz.func178
def akW(p_n:Int):Mo (Int):=
 .say [] (okc (by decide:(0:Int)≤1) (ok1 (by decide:(0:Int)≤63)))<|
 .ret (aX 1) (dI .xor .u64 (Bg .u64 (IntKind.wrap .u64 p_n) 1) (IntKind.wrap .u64 (kR .i64 p_n 63)))
def anA(p_n:Int):Option (Int):=Mo.den (akW p_n)
theorem JB(p_n:Int):FV (anA p_n) 202 [.i_ p_n] (fun r=>.lf (.int .u64 r)):=bW Tryz.func202
def Yp :(Int×Int)→Mo ((Int×Int)⊕(Int)):=fun(v0,v1)=>
 .iB (decide ((128:Int)≤v1)) (.stop)<|
 .rt [3] 0 (.inr (v0))
def akX(p_n:Int):Mo (Int):=
 .cl (JB p_n) fun r0 _=>
 .l1 Tryz.f300 0 [1,1,0,1,0] 0 (.exit 0) (fun(v0,v1)=>⟨[(3,.i_ v0),(4,.lf (.int .u64 v1))],[]⟩) (fun r_=>⟨[(3,.i_ r_)],[]⟩) (Yp ) (1,r0) fun r1=>
 .ret (aX 1) (r1)
def anB(p_n:Int):Option (Int):=Mo.den (akX p_n)
theorem JC(p_n:Int):FV (anB p_n) 300 [.i_ p_n] .i_:=bW Tryz.func300
end
end Go.Proofs.YtflpefkohpjjpaaGreatDoor
set_option linter.unusedSimpArgs false
set_option linter.unusedVariables false
namespace Go.Proofs.YtflpefkohpjjpaaGreatDoor
open Go.RowKit
set_option maxRecDepth 20000
set_option maxHeartbeats 4000000
noncomputable section
abbrev Rh(m:ah→Option (Int)):Prop:=∀p_v,FV (m p_v) 255 [.dat (ah.lf1 p_v)] .i_
structure RB6 where
 m1:(p_v:ah)→Option (Int)
 ok1:Rh m1
def Yq(R_:RB6)(p_v:ah):Mo (Bool):=
 .iB (p_v.au==3) (.rt [1,3,9,10] 1 (p_v.au==3))<|
 .rt [1,3,9,10] 1 (p_v.au==10)
def Yr(R_:RB6)(p_v:ah):Mo (Bool):=
 .iB (p_v.au==4) (.stop)<|
 .rt [1,3,9,22] 1 (p_v.au==7)
def Ri(R_:RB6)(p_v:ah):(Int×Int)→Mo ((Int×Int)⊕(Int)):=fun(v0,v1)=>
 .iB (decide ((v1:Int)<(p_v.aT.length:Int))) (.gx ay.aS p_v.aT v1 fun x0 _=>
 .say [.order [(true,0),(true,1),(true,2),(true,3),(true,5),(true,6),(true,7),(true,9),(true,10),(false,4),(true,8),(false,11),(true,12),(true,13),(true,14)] none []] ok0<|
 .cl (JC (x0.fName.size:Int)) fun r0 _=>
 .cl (R_.ok1 x0.fValue) fun r1 _=>
 .rt [3,71,72,73] 1 (.inl (IntKind.wrap .i64 (v0+(IntKind.wrap .i64 ((IntKind.wrap .i64 (r0+(x0.fName.size:Int)))+r1))),IntKind.wrap .i64 (v1+1))))<|
 .rt [3] 1 (.inr (v0))
def Rj(R_:RB6)(p_v:ah):Mo (Int):=
 .jk Tryz.f255 0 [1,1,0,1,0,0,1] 1 (fun r_=>⟨[(1,.ptr 0 0),(3,.i_ 1),(9,.i_ p_v.au),(10,.b_ r_)],[aZ p_v]⟩) ⟨[(1,.ptr 0 0),(3,.i_ 1),(9,.i_ p_v.au),(10,.lf (.bool (p_v.au==3)))],[aZ p_v]⟩ (Yq R_ p_v) fun r0=>
 .iB (r0) (.cl (JC p_v.dD) fun r1 _=>
 .ret ⟨[.kill 0],[3],[],1⟩ (IntKind.wrap .i64 (1+r1)))<|
 .iB (p_v.au==9) (.stop)<|
 .jk Tryz.f255 0 [1,1,0,1,0,1,1,1,1,0,1] 1 (fun r_=>⟨[(1,.ptr 0 0),(3,.i_ 1),(9,.i_ p_v.au),(22,.b_ r_)],[aZ p_v]⟩) ⟨[(1,.ptr 0 0),(3,.i_ 1),(9,.i_ p_v.au),(22,.lf (.bool (p_v.au==4)))],[aZ p_v]⟩ (Yr R_ p_v) fun r2=>
 .iB (r2) (.stop)<|
 .iB (p_v.au==8) (.stop)<|
 .iB (p_v.au==6) (.stop)<|
 .iB (p_v.au==5) (.nu p_v.aT ay.lf<|
 .ask (anB (p_v.aT.length:Int)) fun r3 h0=>
 .say [.res (.i_ r3),.num p_v.aT.length] (okc (JC _ _ h0) (ok1 (ln_ p_v.aT ay.lf)))<|
 .l1y [.kill 0] Tryz.f255 0 [1,1,0,1,0,1,1,1,1,1,1,1,1,1,1,1,0,1,1,0] 0 (.exit 3) (fun(v0,v1)=>⟨[(3,.i_ v0),(71,.lf (.rows 6 (p_v.aT.map ay.lf))),(72,.i_ (p_v.aT.length:Int)),(73,.i_ v1)],[.dead]⟩) (fun r_=>⟨[(3,.i_ r_)],[.dead]⟩) (Ri R_ p_v) ((IntKind.wrap .i64 (1+r3)),0) fun r4=>
 .rt [3] 1 (r4))<|
 .stop
def acj(R_:RB6)(p_v:ah):Mo (Int):=
 .jk Tryz.f255 0 [1,1,0,1] 6 (fun r_=>⟨[(3,.i_ r_)],[.dead]⟩) ⟨[(1,.ptr 0 0),(3,.i_ 1),(9,.i_ p_v.au)],[aZ p_v]⟩ (Rj R_ p_v) fun r0=>
 .ret (aX 1) (r0)
theorem acn(R_:RB6):Rh fun p_v=>Mo.den (acj R_ p_v):=fun _=>bW Tryz.func255
def U4:Nat→RB6
 |0=>{ m1:=fun p_v=>none,ok1:=fun _ _ h=>(by cases h) }
 |n_+1=>{ m1:=fun p_v=>Mo.den (acj (U4 n_) p_v),ok1:=acn (U4 n_) }
def aoM(p_v:ah):Option (Int):=(U4 FU).m1 p_v
theorem aha:Rh aoM:=(U4 FU).ok1
def akY(p_v:ah):Mo (Int×Int):=
 .cl (tV p_v) fun r0 _=>
 .iB (!r0) (.stop)<|
 .cl (aha p_v) fun r1 _=>
 .ret (aX 2) (r1,0)
def aoN(p_v:ah):Option (Int×Int):=Mo.den (akY p_v)
theorem ahb(p_v:ah):FV (aoN p_v) 179 [.dat (ah.lf1 p_v)] (fun r=>.tup [.i_ r.1,.i_ r.2]):=bW Tryz.func179
def Yt(p_doc:ah)(p_key:ah):Mo (Bool):=
 .iG 4003 (p_doc.au != 5) (.stop)<|
 .cl (tV p_doc) fun r0 _=>
 .rt [2,3,14] 2 (!r0)
def Yu(p_doc:ah)(p_key:ah)(r0:Bool):Mo (Bool):=
 .iG 4008 (r0) (.stop)<|
 .nu p_doc.aT ay.lf<|
 .rt [2,3,20] 2 ((p_doc.aT.length:Int)==0)
def Rk(p_doc:ah)(p_key:ah):Mo (Bool):=
 .ask (ig p_doc.aT 0) fun x0 h0=>
 .say [] (ok1 (dS ay.aS h0))<|
 .ite (!decide ((x0.fName:ByteArray)=(⟨#[95,105,100]⟩:ByteArray))) (fun _=>
 .stop) fun c0=>
 .say [] (ok1 c0)<|
 .ask (ig p_doc.aT 0) fun x1 h1=>
 .say [] (ok1 (dS ay.aS h1))<|
 .ask (anz x1.fValue p_key) fun r0 h2=>
 .say [.iD (.q 0 (.q 1 (.q 2 (.q 3 (.q 4 (.q 5 (.q 6 (.q 7 (.q 8 (.q 9 (.q 10 (.q 11 (.q 12 (.l 13 (.q 14 (.q 15 .fin)))))))))))))))) (some 13) [] [.row (ay.lf1 x0),.gd 8006 false,.row (ay.lf1 x1),.res (.b_ r0)] [2,36] 2 [(2,.ptr 0 0),(36,.lf (.bool (!r0)))] [aZ p_doc,aZ p_key]] (okc (ag9 _ _ _ h2) (ok1 (rf_ ⟨[(2,.ptr 0 0),(36,.lf (.bool (!r0)))],[aZ p_doc,aZ p_key]⟩)))<|
 .ret ⟨[.kill 1],[2,36],[],2⟩ (!r0)
def akZ(p_doc:ah)(p_key:ah):Mo (Int):=
 .sf Tryz.f111 0 [1,0,0] 0 8 1 [(2,.ptr 0 0),(3,.ptr 1 0)] [aZ p_doc,aZ p_key] 14 (Yt p_doc p_key) fun r0=>
 .sb Tryz.f111 0 [1,0,0] 8 6 1 [(2,.ptr 0 0),(3,.ptr 1 0)] [aZ p_doc,aZ p_key] 14 20 r0 (Yu p_doc p_key r0) fun r1=>
 .iB (r1) (.stop)<|
 .jk Tryz.f111 0 [1,1,0,0] 13 (fun r_=>⟨[(2,.ptr 0 0),(36,.b_ r_)],[aZ p_doc,.dead]⟩) ⟨[(2,.ptr 0 0),(3,.ptr 1 0)],[aZ p_doc,aZ p_key]⟩ (Rk p_doc p_key) fun r2=>
 .iB (r2) (.ret (aX 1) (8))<|
 .cl (ahb p_doc) fun r3 _=>
 .iB (r3.2 != 0) (.stop)<|
 .iB (decide ((16384:Int)<r3.1)) (.stop)<|
 .ret (aX 1) (0)
def aoO(p_doc:ah)(p_key:ah):Option (Int):=Mo.den (akZ p_doc p_key)
theorem ahc(p_doc:ah)(p_key:ah):FV (aoO p_doc p_key) 111 [.dat (ah.lf1 p_doc),.dat (ah.lf1 p_key)] .i_:=bW Tryz.func111
def Yv(p_w:ak):Mo ((Int)⊕Unit):=
 .iB (p_w.au==2) (.cl (ahc p_w.aT p_w.fO) fun r0 _=>
 .iB (r0 != 0) (.ret ⟨[.kill 0],[2],[],1⟩ (.inl (r0)))<|
 .rt [1] 1 (.inr (())))<|
 .stop
def ak0(p_w:ak):Mo (Int):=
 .cl (ag6 p_w.fO) fun r0 _=>
 .iB (!r0) (.stop)<|
 .j2 [] Tryz.f60 0 [1,1,0,1] 1 .ret (fun o_=>⟨[(2,.i_ o_)],[.dead]⟩) .normal (fun _=>⟨[(1,.ptr 0 0)],[cu p_w]⟩) ⟨[(1,.ptr 0 0),(10,.lf (.bool (p_w.au==2)))],[cu p_w]⟩ (Yv p_w) (fun o0=>
 .ret (aX 1) (o0)) fun o1=>
 .cl (wP p_w.dG) fun r1 _=>
 .iB (r1) (.ret (aX 1) (0))<|
 .stop
def aoP(p_w:ak):Option (Int):=Mo.den (ak0 p_w)
theorem ahd(p_w:ak):FV (aoP p_w) 60 [.dat (ak.lf1 p_w)] .i_:=bW Tryz.func60
def wX(p_s1:List ByteArray)(p_s2:List ByteArray):(Int)→Mo ((Int)⊕(Unit⊕Unit)):=fun(v0)=>
 .iB (decide ((v0:Int)<(p_s1.length:Int))) (.say [.order [(true,0),(true,1),(true,2),(true,3),(true,4),(true,5),(true,6),(true,7),(true,8)] none []] ok0<|
 .gx lS_ p_s1 v0 fun x0 _=>
 .gx lS_ p_s2 v0 fun x1 _=>
 .iB (!decide ((x0:ByteArray)=(x1:ByteArray))) (.rt [4] 0 (.inr (.inl ())))<|
 .rt [0,1,12,13] 0 (.inl (IntKind.wrap .i64 (v0+1))))<|
 .rt [] 0 (.inr (.inr (())))
def JD(p_s1:List ByteArray)(p_s2:List ByteArray)(v0:Int):Option (Unit⊕Unit):=bP (fun v_=>(wX p_s1 p_s2 v_).den) FU (v0)
def ajd(p_s1:List ByteArray)(p_s2:List ByteArray):Mo (Bool):=
 .nu p_s1 lfS<|
 .nu p_s2 lfS<|
 .iB ((p_s1.length:Int) != (p_s2.length:Int)) (.ret (aX 1) (false))<|
 .nu p_s1 lfS<|
 .l2m [] Tryz.f23 0 [1,1,0,1,0] 0 (fun(v0)=>⟨[(0,.lf (.rows 1 (p_s1.map lfS))),(1,.lf (.rows 1 (p_s2.map lfS))),(12,.i_ (p_s1.length:Int)),(13,.i_ v0)],[]⟩) .ret (fun _=>⟨[(4,.b_ false)],[]⟩) (.exit 0) (fun _=>⟨[],[]⟩) (JD p_s1 p_s2 0) (wX p_s1 p_s2) (0) (fun o0=>
 .ret (aX 1) (false)) fun o1=>
 .ret (aX 1) (true)
def Q69(p_s1:List ByteArray)(p_s2:List ByteArray):Option (Bool):=Mo.den (ajd p_s1 p_s2)
theorem ak1(p_s1:List ByteArray)(p_s2:List ByteArray):FV (Q69 p_s1 p_s2) 23 [.lf (.rows 1 (p_s1.map lfS)),.lf (.rows 1 (p_s2.map lfS))] .b_:=bW Tryz.func23
abbrev ak2(m:aN→Int→Int→Option (Bool×Int)):Prop:=∀p_p p_level p_b0,FH (m p_p p_level p_b0) 185 [.dat (aN.lf1 p_p),.i_ p_level,.ptr 0 0] [.box 3 (.dat [(.int .i64 p_b0)])] (fun r=>.b_ r.1) (fun r=>[.box 3 (.dat [(.int .i64 r.2)])])
structure RB7 where
 m1:(p_p:aN)→(p_level:Int)→(p_b0:Int)→Option (Bool×Int)
 ok1:ak2 m1
abbrev ak3(m:aO→Int→Int→Option (Int×Int)):Prop:=∀p_e p_level p_b0,FH (m p_e p_level p_b0) 336 [.dat (aO.lf1 p_e),.i_ p_level,.ptr 0 0] [.box 3 (.dat [(.int .i64 p_b0)])] (fun r=>.i_ r.1) (fun r=>[.box 3 (.dat [(.int .i64 r.2)])])
structure RB9 where
 m1:(p_e:aO)→(p_level:Int)→(p_b0:Int)→Option (Int×Int)
 ok1:ak3 m1
abbrev ak4(m:aN→Bool→Option (Int)):Prop:=∀p_p p_inside,FV (m p_p p_inside) 186 [.dat (aN.lf1 p_p),.b_ p_inside] .i_
structure RB8 where
 m1:(p_p:aN)→(p_inside:Bool)→Option (Int)
 ok1:ak4 m1
end
end Go.Proofs.YtflpefkohpjjpaaGreatDoor
set_option linter.unusedSimpArgs false
set_option linter.unusedVariables false
namespace Go.Proofs.YtflpefkohpjjpaaGreatDoor
open Go.RowKit
set_option maxRecDepth 20000
set_option maxHeartbeats 4000000
noncomputable section
abbrev ahe(m:aH→Int→Int→Option (Int×Int)):Prop:=∀p_s p_level p_b0,FH (m p_s p_level p_b0) 182 [.dat (aH.lf1 p_s),.i_ p_level,.ptr 0 0] [.box 3 (.dat [(.int .i64 p_b0)])] (fun r=>.i_ r.1) (fun r=>[.box 3 (.dat [(.int .i64 r.2)])])
structure apA where
 m1:(p_s:aH)→(p_level:Int)→(p_b0:Int)→Option (Int×Int)
 ok1:ahe m1
abbrev Rl(m:ak→Int→Int→Option (Int)):Prop:=∀p_w p_least p_greatest,FV (m p_w p_least p_greatest) 30 [.dat (ak.lf1 p_w),.i_ p_least,.i_ p_greatest] .i_
structure RB1 where
 m1:(p_w:ak)→(p_least:Int)→(p_greatest:Int)→Option (Int)
 ok1:Rl m1
def ahf(R_:RB1)(p_greatest:Int)(p_least:Int)(p_w:ak)(r0:bg):Mo (Bool):=
 .iG 6004 (decide ((p_w.au:Int)<p_least)) (.stop)<|
 .rt [2,3,7,24] 2 (decide ((p_greatest:Int)<p_w.au))
def ahg(R_:RB1)(p_greatest:Int)(p_w:ak)(r0:bg)(r1:Bool):Mo (Bool):=
 .iG 6010 (r1) (.stop)<|
 .cl (akM p_w) fun r2 _=>
 .rt [2,3,7,29] 2 (!r2)
def aco(R_:RB1)(p_greatest:Int)(p_w:ak)(r0:bg)(r1:Bool):Mo (Bool):=
 .iG 6015 (r1) (.stop)<|
 .iG 6018 (r0.qm) (.stop)<|
 .rt [2,3,7,39] 2 (false)
def acp(R_:RB1)(p_greatest:Int)(p_w:ak)(r0:bg):Mo (Bool):=
 .iG 14002 (r0.yR) (.cl (akE p_w.fC) fun r1 _=>
 .rt [2,3,7,51] 2 (!r1))<|
 .rt [2,3,7,51] 2 (false)
def acr(R_:RB1)(p_greatest:Int)(p_w:ak)(r0:bg)(r1:Bool):Mo (Bool):=
 .iG 14008 (r1) (.stop)<|
 .iG 14011 (r0.QD) (.stop)<|
 .rt [2,3,7,61] 2 (false)
def acs(R_:RB1)(p_greatest:Int)(p_w:ak)(r0:bg)(r1:Bool):Mo (Bool):=
 .iG 14018 (r1) (.stop)<|
 .iG 14021 (r0.kC) (.stop)<|
 .rt [2,3,7,72] 2 (false)
def acu(R_:RB1)(p_greatest:Int)(p_w:ak)(r0:bg):Mo (Bool):=
 .iG 18002 (r0.vg) (.stop)<|
 .rt [2,3,7,79] 2 (false)
def acv(R_:RB1)(p_greatest:Int)(p_w:ak)(r0:bg)(r1:Bool):Mo (Bool):=
 .iG 18007 (r1) (.stop)<|
 .iG 18010 (r0.qo) (.stop)<|
 .rt [2,3,7,89] 2 (false)
def acw(R_:RB1)(p_greatest:Int)(p_w:ak)(r0:bg):Mo ((Int)⊕Unit):=
 .iB (r0.QC) (.cl (ahd p_w) fun r1 _=>
 .iB (r1 != 0) (.ret ⟨[.kill 0],[6],[],2⟩ (.inl (r1)))<|
 .rt [2,3] 2 (.inr (())))<|
 .rt [2,3] 2 (.inr (()))
def NC(R_:RB1)(p_greatest:Int)(p_w:ak):Mo ((Int)⊕(Int)):=
 .iB (p_w.au==4) (.stop)<|
 .iB (p_w.au==6) (.stop)<|
 .iB (p_w.au==8) (.stop)<|
 .iB (p_w.au==9) (.stop)<|
 .rt [2,3] 2 (.inr (p_greatest))
def acy(R_:RB1)(p_greatest:Int)(p_w:ak):Option ((Int)⊕(Int)):=Mo.den (NC R_ p_greatest p_w)
def CG(r_:(Int)⊕(Int)):Exit:=match r_ with
 |.inl o_=>.ret
 |.inr (o_)=>.normal
def CJ(p_w:ak)(r_:(Int)⊕(Int)):St:=match r_ with
 |.inl o_=>⟨[(6,.i_ o_)],[.dead,.dead]⟩
 |.inr (o_)=>⟨[(2,.i_ o_),(3,.ptr 0 0)],[cu p_w,.dead]⟩
theorem acz{R_:RB1}{p_greatest:Int}{p_w:ak}{r_:(Int)⊕(Int)}(h:acy R_ p_greatest p_w=some r_):Jo Tryz.f30 0 [1,1,1,1,1,1,1,0,1] (CG r_) (CJ p_w r_) ⟨[(2,.i_ p_greatest),(3,.ptr 0 0),(98,.i_ p_w.au)],[cu p_w,.dead]⟩:=
 BO kP (NC R_ p_greatest p_w) CG (CJ p_w) (by kernel_rfl) h
def ND(R_:RB1)(o0:Int)(p_w:ak):(Int)→Mo ((Int)⊕(Int)⊕Unit):=fun(v0)=>
 .iB (decide ((v0:Int)<(p_w.aY.length:Int))) (.stop)<|
 .rt [] 2 (.inr (.inr (())))
def acA(R_:RB1)(o0:Int)(p_w:ak)(v0:Int):Option ((Int)⊕Unit):=bP (fun v_=>(ND R_ o0 p_w v_).den) FU (v0)
def NG(R_:RB1)(o0:Int)(p_w:ak):(Int)→St:=fun(v0)=>⟨[(2,.i_ o0),(114,.lf (.rows 78 (p_w.aY.map ak.lf))),(115,.i_ (p_w.aY.length:Int)),(116,.i_ v0)],[.dead,.dead]⟩
def CO(r_:(Int)⊕Unit):Exit:=match r_ with
 |.inl o_=>.ret
 |.inr (o_)=>.exit 1
def wY  (r_:(Int)⊕Unit):St:=match r_ with
 |.inl o_=>⟨[(6,.i_ o_)],[.dead,.dead]⟩
 |.inr (o_)=>⟨[],[.dead,.dead]⟩
theorem acB{R_:RB1}{o0:Int}{p_w:ak}{v0:Int}{r_:(Int)⊕Unit}(h:acA R_ o0 p_w v0=some r_):Jo Tryz.f30 0 [1,1,1,1,1,1,1,1,0,1,0] (CO r_) (wY r_) (NG R_ o0 p_w (v0)):=
 Jm kP (body:=(Code.sub (bodyC Tryz.f30) [1,1,1,1,1,1,1,1,0,1,0,0])) (by kernel_rfl) (ND R_ o0 p_w) (NG R_ o0 p_w) CO wY (fun r_=>by rcases r_ with _|_<;>rfl) (fun v_=>by kernel_rfl) h
def anC(R_:RB1)(p_w:ak)(p_least:Int)(p_greatest:Int):Mo (Int):=
 .cl (UU p_w.au) fun r0 _=>
 .sk Tryz.f30 0 [1,1,0,0] 0 10 2 (fun r_=>⟨[(2,.i_ p_greatest),(3,.ptr 0 0),(7,.ptr 1 0),(24,.b_ r_)],[cu p_w,.box 104 (.agg ((bg.lf1 r0).map AV.lf))]⟩) ⟨[(1,.i_ p_least),(2,.i_ p_greatest),(3,.ptr 0 0),(7,.ptr 1 0)],[cu p_w,.box 104 (.agg ((bg.lf1 r0).map AV.lf))]⟩ (ahf R_ p_greatest p_least p_w r0) fun r1=>
 .sb Tryz.f30 0 [1,1,0,0] 10 5 2 [(2,.i_ p_greatest),(3,.ptr 0 0),(7,.ptr 1 0)] [cu p_w,.box 104 (.agg ((bg.lf1 r0).map AV.lf))] 24 29 r1 (ahg R_ p_greatest p_w r0 r1) fun r2=>
 .sb Tryz.f30 0 [1,1,0,0] 15 10 2 [(2,.i_ p_greatest),(3,.ptr 0 0),(7,.ptr 1 0)] [cu p_w,.box 104 (.agg ((bg.lf1 r0).map AV.lf))] 29 39 r2 (aco R_ p_greatest p_w r0 r2) fun r3=>
 .iB (r3) (.stop)<|
 .nu p_w.aY ak.lf<|
 .iB (decide ((256:Int)<(p_w.aY.length:Int))) (.stop)<|
 .sf Tryz.f30 0 [1,1,1,1,0,0] 0 8 6 [(2,.i_ p_greatest),(3,.ptr 0 0),(7,.ptr 1 0)] [cu p_w,.box 104 (.agg ((bg.lf1 r0).map AV.lf))] 51 (acp R_ p_greatest p_w r0) fun r4=>
 .sb Tryz.f30 0 [1,1,1,1,0,0] 8 10 6 [(2,.i_ p_greatest),(3,.ptr 0 0),(7,.ptr 1 0)] [cu p_w,.box 104 (.agg ((bg.lf1 r0).map AV.lf))] 51 61 r4 (acr R_ p_greatest p_w r0 r4) fun r5=>
 .sb Tryz.f30 0 [1,1,1,1,0,0] 18 11 6 [(2,.i_ p_greatest),(3,.ptr 0 0),(7,.ptr 1 0)] [cu p_w,.box 104 (.agg ((bg.lf1 r0).map AV.lf))] 61 72 r5 (acs R_ p_greatest p_w r0 r5) fun r6=>
 .iB (r6) (.stop)<|
 .sf Tryz.f30 0 [1,1,1,1,1,0,0] 0 7 8 [(2,.i_ p_greatest),(3,.ptr 0 0),(7,.ptr 1 0)] [cu p_w,.box 104 (.agg ((bg.lf1 r0).map AV.lf))] 79 (acu R_ p_greatest p_w r0) fun r7=>
 .sb Tryz.f30 0 [1,1,1,1,1,0,0] 7 10 8 [(2,.i_ p_greatest),(3,.ptr 0 0),(7,.ptr 1 0)] [cu p_w,.box 104 (.agg ((bg.lf1 r0).map AV.lf))] 79 89 r7 (acv R_ p_greatest p_w r0 r7) fun r8=>
 .iB (r8) (.stop)<|
 .j2 [.kill 1] Tryz.f30 0 [1,1,1,1,1,1,0,1] 1 .ret (fun o_=>⟨[(6,.i_ o_)],[.dead,.dead]⟩) .normal (fun _=>⟨[(2,.i_ p_greatest),(3,.ptr 0 0)],[cu p_w,.dead]⟩) ⟨[(2,.i_ p_greatest),(3,.ptr 0 0),(91,.b_ r0.QC)],[cu p_w,.dead]⟩ (acw R_ p_greatest p_w r0) (fun o0=>
 .ret (aX 1) (o0)) fun o1=>
 .jE (acy R_ p_greatest p_w) (fun _ _=>
 .stop) fun o2 h0=>
 .say [.pt_ 6 [2,3,98] 2 (CG (.inr (o2))) (CJ p_w (.inr (o2))),.num p_w.aY.length] (okc (acz h0) (ok1 (ln_ p_w.aY ak.lf)))<|
 .jE (acA R_ o2 p_w 0) (fun _ _=>
 .stop) fun o3 h1=>
 .say [.part [.kill 0] 0 [2,114,115,116] 2 (CO (.inr (o3))) (wY (.inr (o3))).T (wY (.inr (o3))).H] (ok1 (acB h1))<|
 .ret (aX 1) (0)
theorem ak5(R_:RB1):Rl fun p_w p_least p_greatest=>Mo.den (anC R_ p_w p_least p_greatest):=fun _ _ _=>bW Tryz.func30
def U5:Nat→RB1
 |0=>{ m1:=fun p_w p_least p_greatest=>none,ok1:=fun _ _ _ _ h=>(by cases h) }
 |n_+1=>{ m1:=fun p_w p_least p_greatest=>Mo.den (anC (U5 n_) p_w p_least p_greatest),ok1:=ak5 (U5 n_) }
def Q4(p_w:ak)(p_least:Int)(p_greatest:Int):Option (Int):=(U5 FU).m1 p_w p_least p_greatest
theorem anD:Rl Q4:=(U5 FU).ok1
def Yw(p_e:bG):Mo (Bool):=
 .iG 8003 (decide ((p_e.eU:Int)<1)) (.stop)<|
 .rt [1,13] 1 (decide ((1099511627776:Int)<p_e.eU))
def Yx(p_e:bG)(r0:Bool):Mo (Bool):=
 .iG 8008 (r0) (.stop)<|
 .rt [1,18] 1 (decide ((p_e.ql:Int)<0))
def Rn(p_e:bG):Mo (Bool):=
 .iG 12003 (!decide ((p_e.jV:ByteArray)=(⟨#[]⟩:ByteArray))) (.stop)<|
 .rt [1,27] 1 (false)
def ak6(p_e:bG):Mo (Int):=
 .iB (decide ((p_e.rD:Int)<0)) (.ret (aX 1) (24))<|
 .sf Tryz.f11 0 [1,1,0,0] 0 8 3 [(1,.ptr 0 0)] [jB p_e] 13 (Yw p_e) fun r0=>
 .sb Tryz.f11 0 [1,1,0,0] 8 5 3 [(1,.ptr 0 0)] [jB p_e] 13 18 r0 (Yx p_e r0) fun r1=>
 .iB (r1) (.stop)<|
 .jk Tryz.f11 0 [1,1,1,0,0] 17 (fun r_=>⟨[(1,.ptr 0 0),(27,.b_ r_)],[jB p_e]⟩) ⟨[(1,.ptr 0 0)],[jB p_e]⟩ (Rn p_e) fun r2=>
 .iB (r2) (.stop)<|
 .cl (anD p_e.dA 1 12) fun r3 _=>
 .ret (aX 1) (r3)
def aoQ(p_e:bG):Option (Int):=Mo.den (ak6 p_e)
theorem Az(p_e:bG):FV (aoQ p_e) 11 [.dat (bG.lf1 p_e)] .i_:=bW Tryz.func11
def Yy :(Int×(List Int))→Mo ((Int×(List Int))⊕(Int×(List Int))):=fun(v0,l0)=>
 .iB (decide ((128:Int)≤v0)) (.say [.rows ((l0++[dI .or .u8 (IntKind.wrap .u8 v0) 128]).map (lfK .u8))] (ok1 (by simp[lfI,lfK]:(l0++[dI .or .u8 (IntKind.wrap .u8 v0) 128]).map (lfK .u8)=(l0.map (lfK .u8))++[((lfK .u8) (dI .or .u8 (IntKind.wrap .u8 v0) 128))]))<|
 .grd ((l0.length+[dI .or .u8 (IntKind.wrap .u8 v0) 128].length)*1≤140737488355328) fun h0=>
 .say [] (okc (by simpa using h0:((l0.map (lfK .u8)).length+[((lfK .u8) (dI .or .u8 (IntKind.wrap .u8 v0) 128))].length)*1≤140737488355328) (ok1 (by decide:(0:Int)≤7)))<|
 .ret ⟨[],[0,5],[(2,0)],1⟩ (.inl (kR .u64 v0 7,l0++[dI .or .u8 (IntKind.wrap .u8 v0) 128])))<|
 .rt [0,5] 1 (.inr (v0,l0))
def ak7(p_n:Int):Mo (List Int):=
 .ask (anA p_n) fun r0 h0=>
 .say [.res (.lf (.int .u64 r0))] (okc (JB _ _ h0) (ok1 (by simp[lfI,lfK]:(([]:List Int).map (lfK .u8))=[])))<|
 .l1y [.mW 0 5 1,.je 0 (([]:List Int).map (lfK .u8))] Tryz.f131 0 [1,1,0,0] 0 (.exit 0) (fun(v0,l0)=>⟨[(0,.own 0),(5,.lf (.int .u64 v0))],[.row 5 1 (l0.map (lfK .u8))]⟩) (fun r_=>⟨[(0,.own 0),(5,.lf (.int .u64 r_.1))],[.row 5 1 (r_.2.map (lfK .u8))]⟩) (Yy ) (r0,([]:List Int)) fun r1=>
 .say [.rows ((r1.2++[IntKind.wrap .u8 r1.1]).map (lfK .u8))] (ok1 (by simp[lfI,lfK]:(r1.2++[IntKind.wrap .u8 r1.1]).map (lfK .u8)=(r1.2.map (lfK .u8))++[((lfK .u8) (IntKind.wrap .u8 r1.1))]))<|
 .grd ((r1.2.length+[IntKind.wrap .u8 r1.1].length)*1≤140737488355328) fun h1=>
 .say [] (ok1 (by simpa using h1:((r1.2.map (lfK .u8)).length+[((lfK .u8) (IntKind.wrap .u8 r1.1))].length)*1≤140737488355328))<|
 .ret ⟨[.kill 1,.mvn 2],[0],[(3,0)],1⟩ (r1.2++[IntKind.wrap .u8 r1.1])
def anE(p_n:Int):Option (List Int):=Mo.den (ak7 p_n)
theorem ahh(p_n:Int):FH (anE p_n) 131 [.raw (.slice none 0 0),.i_ p_n] [] (fun _=>.own 0) (fun r=>[.row 5 1 (r.map (lfK .u8))]):=dX Tryz.func131
def ak8(p_n:Int):Mo (ByteArray):=
 .ask (anE p_n) fun r0 h0=>
 .say [.fZ [] (.own 0) [.row 5 1 (r0.map (lfK .u8))],.nums r0] (okc (ahh _ _ h0) (ok1 (by simp[lfI,lfK]:(r0.map (lfK .u8))=r0.map fun n=>[Lf.int .u8 n])))<|
 .ret (aX 1) (strOfNums r0)
def ak9(p_n:Int):Option (ByteArray):=Mo.den (ak8 p_n)
theorem U6(p_n:Int):FV (ak9 p_n) 75 [.i_ p_n] (fun r=>.lf (.str r)):=bW Tryz.func75
def anF(p_n:Int)(p_b0:aA):Mo (aA):=
 .ask (ak9 p_n) fun r0 h0=>
 .say [.iD (.q 0 (.q 1 (.q 2 (.q 3 (.q 5 (.alt 4 (.l 6 (.l 7 (.q 8 (.q 9 (.l 10 .fin))))) (.l 6 (.l 4 (.l 7 (.q 8 (.q 9 (.l 10 .fin)))))))))))) (some 10) [1,2] [.both [.at_ 2 4,.resv 1,.res (.lf (.str r0)),.rows ((p_b0.bH++(numsOf (r0:ByteArray))).map (lfK .u8)),.slot 2] [.at_ 2 6,.resv 1,.res (.lf (.str r0)),.rows ((p_b0.bH++(numsOf (r0:ByteArray))).map (lfK .u8)),.slot 2]] [] 3 [] [.box 75 (.agg [.own 2,.b_ p_b0.dH]),.dead,.row 5 1 ((p_b0.bH++(numsOf (r0:ByteArray))).map (lfK .u8))]] (okc (U6 _ _ h0) (ok1 (by first|(rw[List.map_append,eF];done)|(rw[eF,List.nil_append];done)|simp[lfI,lfK,eF]:(p_b0.bH++(numsOf (r0:ByteArray))).map (lfK .u8)=(p_b0.bH.map (lfK .u8))++oP (r0:ByteArray))))<|
 .grd (p_b0.bH.length+(r0:ByteArray).size≤140737488355328) fun h1=>
 .say [] (okc (by simpa using h1:(p_b0.bH.map (lfK .u8)).length+(r0:ByteArray).size≤140737488355328) (okc (rf_ ⟨[],[.box 75 (.agg [.own 2,.b_ p_b0.dH]),.dead,.row 5 1 ((p_b0.bH++(numsOf (r0:ByteArray))).map (lfK .u8))]⟩) (okc (U6 _ _ h0) (okc (by first|(rw[List.map_append,eF];done)|(rw[eF,List.nil_append];done)|simp[lfI,lfK,eF]:(p_b0.bH++(numsOf (r0:ByteArray))).map (lfK .u8)=(p_b0.bH.map (lfK .u8))++oP (r0:ByteArray)) (okc (by simpa using h1:(p_b0.bH.map (lfK .u8)).length+(r0:ByteArray).size≤140737488355328) (ok1 (rf_ ⟨[],[.box 75 (.agg [.own 2,.b_ p_b0.dH]),.dead,.row 5 1 ((p_b0.bH++(numsOf (r0:ByteArray))).map (lfK .u8))]⟩)))))))<|
 .ret ⟨[.mvn 2],[],[(3,2)],3⟩ (aA.mk (p_b0.bH++(numsOf (r0:ByteArray))) p_b0.dH)
def Q14(p_n:Int)(p_b0:aA):Option (aA):=Mo.den (anF p_n p_b0)
theorem gq(p_n:Int)(p_b0:aA):FH (Q14 p_n p_b0) 34 [.ptr 0 0,.i_ p_n] [.box 75 (.agg [.own 1,.b_ p_b0.dH]),.row 5 1 (p_b0.bH.map (lfK .u8))] (fun _=>.tup []) (fun r=>[.box 75 (.agg [.own 2,.b_ r.dH]),.dead,.row 5 1 (r.bH.map (lfK .u8))]):=dX Tryz.func34
def ala(p_s:ByteArray)(p_b0:aA):Mo (aA):=
 .ask (Q14 (p_s.size:Int) p_b0) fun r0 h0=>
 .say [.fZ [0,1] (.tup []) [.box 75 (.agg [.own 2,.b_ r0.dH]),.dead,.row 5 1 (r0.bH.map (lfK .u8))],.rows ((r0.bH++(numsOf (p_s:ByteArray))).map (lfK .u8))] (okc (gq _ _ _ h0) (ok1 (by first|(rw[List.map_append,eF];done)|(rw[eF,List.nil_append];done)|simp[lfI,lfK,eF]:(r0.bH++(numsOf (p_s:ByteArray))).map (lfK .u8)=(r0.bH.map (lfK .u8))++oP (p_s:ByteArray))))<|
 .grd (r0.bH.length+(p_s:ByteArray).size≤140737488355328) fun h1=>
 .say [] (ok1 (by simpa using h1:(r0.bH.map (lfK .u8)).length+(p_s:ByteArray).size≤140737488355328))<|
 .ret ⟨[.mvn 3],[],[(4,2)],3⟩ (aA.mk (r0.bH++(numsOf (p_s:ByteArray))) r0.dH)
def aoR(p_s:ByteArray)(p_b0:aA):Option (aA):=Mo.den (ala p_s p_b0)
theorem qx(p_s:ByteArray)(p_b0:aA):FH (aoR p_s p_b0) 35 [.ptr 0 0,.lf (.str p_s)] [.box 75 (.agg [.own 1,.b_ p_b0.dH]),.row 5 1 (p_b0.bH.map (lfK .u8))] (fun _=>.tup []) (fun r=>[.box 75 (.agg [.own 2,.b_ r.dH]),.dead,.row 5 1 (r.bH.map (lfK .u8))]):=dX Tryz.func35
def alb(p_b:Bool)(p_b0:aA):Mo (aA):=
 .iB (p_b) (.say [.rows ((p_b0.bH++[(1:Int)]).map (lfK .u8))] (ok1 (by simp[lfI,lfK]:(p_b0.bH++[(1:Int)]).map (lfK .u8)=(p_b0.bH.map (lfK .u8))++[((lfK .u8) (1:Int))]))<|
 .grd ((p_b0.bH.length+[(1:Int)].length)*1≤140737488355328) fun h0=>
 .say [] (ok1 (by simpa using h0:((p_b0.bH.map (lfK .u8)).length+[((lfK .u8) (1:Int))].length)*1≤140737488355328))<|
 .ret ⟨[.kill 2,.mvn 3],[],[(4,2)],3⟩ (aA.mk (p_b0.bH++[(1:Int)]) p_b0.dH))<|
 .say [.rows ((p_b0.bH++[(0:Int)]).map (lfK .u8))] (ok1 (by simp[lfI,lfK]:(p_b0.bH++[(0:Int)]).map (lfK .u8)=(p_b0.bH.map (lfK .u8))++[((lfK .u8) (0:Int))]))<|
 .grd ((p_b0.bH.length+[(0:Int)].length)*1≤140737488355328) fun h1=>
 .say [] (ok1 (by simpa using h1:((p_b0.bH.map (lfK .u8)).length+[((lfK .u8) (0:Int))].length)*1≤140737488355328))<|
 .ret ⟨[.kill 2,.mvn 3],[],[(4,2)],3⟩ (aA.mk (p_b0.bH++[(0:Int)]) p_b0.dH)
def anG(p_b:Bool)(p_b0:aA):Option (aA):=Mo.den (alb p_b p_b0)
theorem lG(p_b:Bool)(p_b0:aA):FH (anG p_b p_b0) 82 [.ptr 0 0,.b_ p_b] [.box 75 (.agg [.own 1,.b_ p_b0.dH]),.row 5 1 (p_b0.bH.map (lfK .u8))] (fun _=>.tup []) (fun r=>[.box 75 (.agg [.own 2,.b_ r.dH]),.dead,.row 5 1 (r.bH.map (lfK .u8))]):=dX Tryz.func82
def acC :(Int×(List Int))→Mo ((Int×(List Int))⊕(Int×(List Int))):=fun(v0,l0)=>
 .iB (decide ((128:Int)≤v0)) (.say [.rows ((l0++[dI .or .u8 (IntKind.wrap .u8 v0) 128]).map (lfK .u8))] (ok1 (by simp[lfI,lfK]:(l0++[dI .or .u8 (IntKind.wrap .u8 v0) 128]).map (lfK .u8)=(l0.map (lfK .u8))++[((lfK .u8) (dI .or .u8 (IntKind.wrap .u8 v0) 128))]))<|
 .grd ((l0.length+[dI .or .u8 (IntKind.wrap .u8 v0) 128].length)*1≤140737488355328) fun h0=>
 .say [] (okc (by simpa using h0:((l0.map (lfK .u8)).length+[((lfK .u8) (dI .or .u8 (IntKind.wrap .u8 v0) 128))].length)*1≤140737488355328) (ok1 (by decide:(0:Int)≤7)))<|
 .ret ⟨[],[0,5],[(3,1)],2⟩ (.inl (kR .u64 v0 7,l0++[dI .or .u8 (IntKind.wrap .u8 v0) 128])))<|
 .rt [0,5] 2 (.inr (v0,l0))
def anH(p_n:Int)(p_s0:List Int):Mo (List Int):=
 .cl (JB p_n) fun r0 _=>
 .l1y [.mvn 0] Tryz.f131 1 [1,1,0,0] 0 (.exit 0) (fun(v0,l0)=>⟨[(0,.own 1),(5,.lf (.int .u64 v0))],[.dead,.row 5 1 (l0.map (lfK .u8))]⟩) (fun r_=>⟨[(0,.own 1),(5,.lf (.int .u64 r_.1))],[.dead,.row 5 1 (r_.2.map (lfK .u8))]⟩) (acC ) (r0,p_s0) fun r1=>
 .say [.rows ((r1.2++[IntKind.wrap .u8 r1.1]).map (lfK .u8))] (ok1 (by simp[lfI,lfK]:(r1.2++[IntKind.wrap .u8 r1.1]).map (lfK .u8)=(r1.2.map (lfK .u8))++[((lfK .u8) (IntKind.wrap .u8 r1.1))]))<|
 .grd ((r1.2.length+[IntKind.wrap .u8 r1.1].length)*1≤140737488355328) fun h0=>
 .say [] (ok1 (by simpa using h0:((r1.2.map (lfK .u8)).length+[((lfK .u8) (IntKind.wrap .u8 r1.1))].length)*1≤140737488355328))<|
 .ret ⟨[.kill 2,.mvn 3],[0],[(4,1)],2⟩ (r1.2++[IntKind.wrap .u8 r1.1])
def Q81(p_n:Int)(p_s0:List Int):Option (List Int):=Mo.den (anH p_n p_s0)
theorem vC(p_n:Int)(p_s0:List Int):FH (Q81 p_n p_s0) 131 [.own 0,.i_ p_n] [.row 5 1 (p_s0.map (lfK .u8))] (fun _=>.own 1) (fun r=>[.dead,.row 5 1 (r.map (lfK .u8))]):=dX Tryz.func131
def alc(p_s:ByteArray)(p_s0:List Int):Mo (List Int):=
 .ask (Q81 (p_s.size:Int) p_s0) fun r0 h0=>
 .say [.fZ [0] (.own 1) [.dead,.row 5 1 (r0.map (lfK .u8))],.rows ((r0++(numsOf (p_s:ByteArray))).map (lfK .u8))] (okc (vC _ _ _ h0) (ok1 (by first|(rw[List.map_append,eF];done)|(rw[eF,List.nil_append];done)|simp[lfI,lfK,eF]:(r0++(numsOf (p_s:ByteArray))).map (lfK .u8)=(r0.map (lfK .u8))++oP (p_s:ByteArray))))<|
 .grd (r0.length+(p_s:ByteArray).size≤140737488355328) fun h1=>
 .say [] (ok1 (by simpa using h1:(r0.map (lfK .u8)).length+(p_s:ByteArray).size≤140737488355328))<|
 .ret ⟨[.mvn 2],[0],[(3,1)],2⟩ (r0++(numsOf (p_s:ByteArray)))
def ald(p_s:ByteArray)(p_s0:List Int):Option (List Int):=Mo.den (alc p_s p_s0)
theorem AA(p_s:ByteArray)(p_s0:List Int):FH (ald p_s p_s0) 278 [.own 0,.lf (.str p_s)] [.row 5 1 (p_s0.map (lfK .u8))] (fun _=>.own 1) (fun r=>[.dead,.row 5 1 (r.map (lfK .u8))]):=dX Tryz.func278
abbrev JE(m:ah→Option (List Int)):Prop:=∀p_v,FH (m p_v) 206 [.raw (.slice none 0 0),.dat (ah.lf1 p_v)] [] (fun _=>.own 0) (fun r=>[.row 5 1 (r.map (lfK .u8))])
abbrev U7(m:ah→(List Int)→Option (List Int)):Prop:=∀p_v p_s0,FH (m p_v p_s0) 206 [.own 0,.dat (ah.lf1 p_v)] [.row 5 1 (p_s0.map (lfK .u8))] (fun _=>.own 1) (fun r=>[.dead,.row 5 1 (r.map (lfK .u8))])
structure vF where
 m1:(p_v:ah)→Option (List Int)
 ok1:JE m1
 m2:(p_v:ah)→(p_s0:List Int)→Option (List Int)
 ok2:U7 m2
def acD(R_:vF)(p_v:ah):Mo (Bool):=
 .iB (p_v.au==3) (.rt [0,3,16,17] 3 (p_v.au==3))<|
 .rt [0,3,16,17] 3 (p_v.au==10)
def acE(R_:vF)(p_v:ah):Mo (Bool):=
 .iB (p_v.au==4) (.rt [0,3,16,32] 3 (p_v.au==4))<|
 .rt [0,3,16,32] 3 (p_v.au==7)
def Yz(R_:vF)(p_v:ah):(Int×(List Int))→Mo ((Int×(List Int))⊕((List Int))):=fun(v0,l0)=>
 .iB (decide ((v0:Int)<(p_v.aU.length:Int))) (.gx ah.aS p_v.aU v0 fun x0 _=>
 .say [.at_ 38 2,.tod 60] ok0<|
 .cH [3] (R_.ok2 x0 l0) fun r0 _=>
 .ret ⟨[],[0,53,54,55],[(5,3)],4⟩ (.inl (IntKind.wrap .i64 (v0+1),r0)))<|
 .rt [0] 4 (.inr (l0))
def YA(R_:vF)(p_v:ah):(Int×(List Int))→Mo ((Int×(List Int))⊕((List Int))):=fun(v0,l0)=>
 .iB (decide ((v0:Int)<(p_v.aT.length:Int))) (.gx ay.aS p_v.aT v0 fun x0 _=>
 .ask (ald x0.fName l0) fun r0 h0=>
 .say [] (ok1 (AA _ _ _ h0))<|
 .ask (R_.m2 x0.fValue r0) fun r1 h1=>
 .say [.iD (.q 0 (.q 1 (.q 2 (.q 4 (.q 5 (.l 3 (.l 6 (.q 7 .fin)))))))) (some 6) [3] [.fZ [3] (.own 1) [.dead,.row 5 1 (r0.map (lfK .u8))],.at_ 52 6,.tod 82,.fZ [5] (.own 1) [.dead,.row 5 1 (r1.map (lfK .u8))]] [0,71,72,73] 7 [(0,.own 6),(71,.lf (.rows 6 (p_v.aT.map ay.lf))),(72,.i_ (p_v.aT.length:Int)),(73,.i_ v0)] [.dead,.dead,.dead,.dead,.box 115 (.agg ((ay.lf1 x0).map AV.lf)),.dead,.row 5 1 (r1.map (lfK .u8))]] (okc (R_.ok2 _ _ _ h1) (ok1 (rf_ ⟨[(0,.own 6),(71,.lf (.rows 6 (p_v.aT.map ay.lf))),(72,.i_ (p_v.aT.length:Int)),(73,.i_ v0)],[.dead,.dead,.dead,.dead,.box 115 (.agg ((ay.lf1 x0).map AV.lf)),.dead,.row 5 1 (r1.map (lfK .u8))]⟩)))<|
 .ret ⟨[],[0,71,72,73],[(6,3)],4⟩ (.inl (IntKind.wrap .i64 (v0+1),r1)))<|
 .rt [0] 4 (.inr (l0))
def YB(R_:vF)(p_v:ah):Mo (((List Int))):=
 .jk Tryz.f206 0 [1,1,0,1,0,0,1] 1 (fun r_=>⟨[(0,.own 2),(3,.ptr 0 0),(16,.i_ p_v.au),(17,.b_ r_)],[aZ p_v,.dead,.row 5 1 ([IntKind.wrap .u8 p_v.au].map (lfK .u8))]⟩) ⟨[(0,.own 2),(3,.ptr 0 0),(16,.i_ p_v.au),(17,.lf (.bool (p_v.au==3)))],[aZ p_v,.dead,.row 5 1 ([IntKind.wrap .u8 p_v.au].map (lfK .u8))]⟩ (acD R_ p_v) fun r0=>
 .iB (r0) (.cH [2] (vC p_v.dD [IntKind.wrap .u8 p_v.au]) fun r1 _=>
 .ret ⟨[.kill 0],[0],[(3,2)],3⟩ (r1))<|
 .iB (p_v.au==9) (.say [.rows (([IntKind.wrap .u8 p_v.au]++[IntKind.wrap .u8 p_v.dD]).map (lfK .u8))] (ok1 (by simp[lfI,lfK]:([IntKind.wrap .u8 p_v.au]++[IntKind.wrap .u8 p_v.dD]).map (lfK .u8)=([IntKind.wrap .u8 p_v.au].map (lfK .u8))++[((lfK .u8) (IntKind.wrap .u8 p_v.dD))]))<|
 .grd (([IntKind.wrap .u8 p_v.au].length+[IntKind.wrap .u8 p_v.dD].length)*1≤140737488355328) fun h0=>
 .say [] (ok1 (by first|(simp;done)|simpa using h0:(([IntKind.wrap .u8 p_v.au].map (lfK .u8)).length+[((lfK .u8) (IntKind.wrap .u8 p_v.dD))].length)*1≤140737488355328))<|
 .ret ⟨[.kill 0],[0],[(4,2)],3⟩ ([IntKind.wrap .u8 p_v.au]++[IntKind.wrap .u8 p_v.dD]))<|
 .jk Tryz.f206 0 [1,1,0,1,0,1,1,1,1,0,1] 1 (fun r_=>⟨[(0,.own 2),(3,.ptr 0 0),(16,.i_ p_v.au),(32,.b_ r_)],[aZ p_v,.dead,.row 5 1 ([IntKind.wrap .u8 p_v.au].map (lfK .u8))]⟩) ⟨[(0,.own 2),(3,.ptr 0 0),(16,.i_ p_v.au),(32,.lf (.bool (p_v.au==4)))],[aZ p_v,.dead,.row 5 1 ([IntKind.wrap .u8 p_v.au].map (lfK .u8))]⟩ (acE R_ p_v) fun r2=>
 .iB (r2) (.cH [2] (AA p_v.fText [IntKind.wrap .u8 p_v.au]) fun r3 _=>
 .ret ⟨[.kill 0],[0],[(3,2)],3⟩ (r3))<|
 .iB (p_v.au==8) (.say [.rows (([IntKind.wrap .u8 p_v.au]++(numsOf (p_v.fText:ByteArray))).map (lfK .u8))] (ok1 (by first|(rw[List.map_append,eF];done)|(rw[eF,List.nil_append];done)|simp[lfI,lfK,eF]:([IntKind.wrap .u8 p_v.au]++(numsOf (p_v.fText:ByteArray))).map (lfK .u8)=([IntKind.wrap .u8 p_v.au].map (lfK .u8))++oP (p_v.fText:ByteArray)))<|
 .grd ([IntKind.wrap .u8 p_v.au].length+(p_v.fText:ByteArray).size≤140737488355328) fun h1=>
 .say [] (ok1 (by simpa using h1:([IntKind.wrap .u8 p_v.au].map (lfK .u8)).length+(p_v.fText:ByteArray).size≤140737488355328))<|
 .ret ⟨[.kill 0],[0],[(3,2)],3⟩ ([IntKind.wrap .u8 p_v.au]++(numsOf (p_v.fText:ByteArray))))<|
 .iB (p_v.au==6) (.nu p_v.aU ah.lf<|
 .ask (Q81 (p_v.aU.length:Int) [IntKind.wrap .u8 p_v.au]) fun r4 h2=>
 .say [.fZ [2] (.own 1) [.dead,.row 5 1 (r4.map (lfK .u8))],.num p_v.aU.length] (okc (vC _ _ _ h2) (ok1 (ln_ p_v.aU ah.lf)))<|
 .l1y [.kill 0] Tryz.f206 0 [1,1,0,1,0,1,1,1,1,1,1,1,1,1,0,1,1,0] 0 (.exit 1) (fun(v0,l0)=>⟨[(0,.own 3),(53,.lf (.rows 5 (p_v.aU.map ah.lf))),(54,.i_ (p_v.aU.length:Int)),(55,.i_ v0)],[.dead,.dead,.dead,.row 5 1 (l0.map (lfK .u8))]⟩) (fun r_=>⟨[(0,.own 3)],[.dead,.dead,.dead,.row 5 1 (r_.map (lfK .u8))]⟩) (Yz R_ p_v) (0,r4) fun r5=>
 .ret ⟨[],[0],[(3,2)],3⟩ (r5))<|
 .iB (p_v.au==5) (.nu p_v.aT ay.lf<|
 .ask (Q81 (p_v.aT.length:Int) [IntKind.wrap .u8 p_v.au]) fun r6 h3=>
 .say [.fZ [2] (.own 1) [.dead,.row 5 1 (r6.map (lfK .u8))],.num p_v.aT.length] (okc (vC _ _ _ h3) (ok1 (ln_ p_v.aT ay.lf)))<|
 .l1y [.kill 0] Tryz.f206 0 [1,1,0,1,0,1,1,1,1,1,1,1,1,1,1,1,0,1,1,0] 0 (.exit 3) (fun(v1,l1)=>⟨[(0,.own 3),(71,.lf (.rows 6 (p_v.aT.map ay.lf))),(72,.i_ (p_v.aT.length:Int)),(73,.i_ v1)],[.dead,.dead,.dead,.row 5 1 (l1.map (lfK .u8))]⟩) (fun r_=>⟨[(0,.own 3)],[.dead,.dead,.dead,.row 5 1 (r_.map (lfK .u8))]⟩) (YA R_ p_v) (0,r6) fun r7=>
 .ret ⟨[],[0],[(3,2)],3⟩ (r7))<|
 .ret ⟨[.kill 0],[0],[],3⟩ ([IntKind.wrap .u8 p_v.au])
def aje(R_:vF)(p_v:ah):Mo (List Int):=
 .say [.rows ([IntKind.wrap .u8 p_v.au].map (lfK .u8))] (ok1 (by simp[lfI,lfK]:[IntKind.wrap .u8 p_v.au].map (lfK .u8)=[]++[((lfK .u8) (IntKind.wrap .u8 p_v.au))]))<|
 .grd ((([]:List Int).length+[IntKind.wrap .u8 p_v.au].length)*1≤140737488355328) fun h0=>
 .say [] (ok1 (by first|(simp;done)|simpa using h0:(([]:List (List Lf)).length+[((lfK .u8) (IntKind.wrap .u8 p_v.au))].length)*1≤140737488355328))<|
 .jy [.kill 1] Tryz.f206 0 [1,1,0,1] 6 (.normal) (fun r_=>⟨[(0,.own 2)],[.dead,.dead,.row 5 1 (r_.map (lfK .u8))]⟩) ⟨[(0,.own 2),(3,.ptr 0 0),(16,.i_ p_v.au)],[aZ p_v,.dead,.row 5 1 ([IntKind.wrap .u8 p_v.au].map (lfK .u8))]⟩ (YB R_ p_v) fun r0=>
 .ret ⟨[.mvn 2],[0],[(3,0)],1⟩ (r0)
theorem ahi(R_:vF):JE fun p_v=>Mo.den (aje R_ p_v):=fun _=>dX Tryz.func206
def acF(R_:vF)(p_s0:List Int)(p_v:ah):Mo (Bool):=
 .iB (p_v.au==3) (.rt [0,3,16,17] 4 (p_v.au==3))<|
 .rt [0,3,16,17] 4 (p_v.au==10)
def acG(R_:vF)(p_s0:List Int)(p_v:ah):Mo (Bool):=
 .iB (p_v.au==4) (.rt [0,3,16,32] 4 (p_v.au==4))<|
 .rt [0,3,16,32] 4 (p_v.au==7)
def YC(R_:vF)(p_v:ah):(Int×(List Int))→Mo ((Int×(List Int))⊕((List Int))):=fun(v0,l0)=>
 .iB (decide ((v0:Int)<(p_v.aU.length:Int))) (.gx ah.aS p_v.aU v0 fun x0 _=>
 .say [.at_ 38 2,.tod 60] ok0<|
 .cH [4] (R_.ok2 x0 l0) fun r0 _=>
 .ret ⟨[],[0,53,54,55],[(6,4)],5⟩ (.inl (IntKind.wrap .i64 (v0+1),r0)))<|
 .rt [0] 5 (.inr (l0))
def YD(R_:vF)(p_v:ah):(Int×(List Int))→Mo ((Int×(List Int))⊕((List Int))):=fun(v0,l0)=>
 .iB (decide ((v0:Int)<(p_v.aT.length:Int))) (.gx ay.aS p_v.aT v0 fun x0 _=>
 .ask (ald x0.fName l0) fun r0 h0=>
 .say [] (ok1 (AA _ _ _ h0))<|
 .ask (R_.m2 x0.fValue r0) fun r1 h1=>
 .say [.iD (.q 0 (.q 1 (.q 2 (.q 4 (.q 5 (.l 3 (.l 6 (.q 7 .fin)))))))) (some 6) [4] [.fZ [4] (.own 1) [.dead,.row 5 1 (r0.map (lfK .u8))],.at_ 52 6,.tod 82,.fZ [6] (.own 1) [.dead,.row 5 1 (r1.map (lfK .u8))]] [0,71,72,73] 8 [(0,.own 7),(71,.lf (.rows 6 (p_v.aT.map ay.lf))),(72,.i_ (p_v.aT.length:Int)),(73,.i_ v0)] [.dead,.dead,.dead,.dead,.dead,.box 115 (.agg ((ay.lf1 x0).map AV.lf)),.dead,.row 5 1 (r1.map (lfK .u8))]] (okc (R_.ok2 _ _ _ h1) (ok1 (rf_ ⟨[(0,.own 7),(71,.lf (.rows 6 (p_v.aT.map ay.lf))),(72,.i_ (p_v.aT.length:Int)),(73,.i_ v0)],[.dead,.dead,.dead,.dead,.dead,.box 115 (.agg ((ay.lf1 x0).map AV.lf)),.dead,.row 5 1 (r1.map (lfK .u8))]⟩)))<|
 .ret ⟨[],[0,71,72,73],[(7,4)],5⟩ (.inl (IntKind.wrap .i64 (v0+1),r1)))<|
 .rt [0] 5 (.inr (l0))
def YE(R_:vF)(p_s0:List Int)(p_v:ah):Mo (((List Int))):=
 .jk Tryz.f206 1 [1,1,0,1,0,0,1] 1 (fun r_=>⟨[(0,.own 3),(3,.ptr 1 0),(16,.i_ p_v.au),(17,.b_ r_)],[.dead,aZ p_v,.dead,.row 5 1 ((p_s0++[IntKind.wrap .u8 p_v.au]).map (lfK .u8))]⟩) ⟨[(0,.own 3),(3,.ptr 1 0),(16,.i_ p_v.au),(17,.lf (.bool (p_v.au==3)))],[.dead,aZ p_v,.dead,.row 5 1 ((p_s0++[IntKind.wrap .u8 p_v.au]).map (lfK .u8))]⟩ (acF R_ p_s0 p_v) fun r0=>
 .iB (r0) (.cH [3] (vC p_v.dD (p_s0++[IntKind.wrap .u8 p_v.au])) fun r1 _=>
 .ret ⟨[.kill 1],[0],[(4,3)],4⟩ (r1))<|
 .iB (p_v.au==9) (.say [.rows (((p_s0++[IntKind.wrap .u8 p_v.au])++[IntKind.wrap .u8 p_v.dD]).map (lfK .u8))] (ok1 (by simp[lfI,lfK]:((p_s0++[IntKind.wrap .u8 p_v.au])++[IntKind.wrap .u8 p_v.dD]).map (lfK .u8)=((p_s0++[IntKind.wrap .u8 p_v.au]).map (lfK .u8))++[((lfK .u8) (IntKind.wrap .u8 p_v.dD))]))<|
 .grd (((p_s0++[IntKind.wrap .u8 p_v.au]).length+[IntKind.wrap .u8 p_v.dD].length)*1≤140737488355328) fun h0=>
 .say [] (ok1 (by simpa using h0:(((p_s0++[IntKind.wrap .u8 p_v.au]).map (lfK .u8)).length+[((lfK .u8) (IntKind.wrap .u8 p_v.dD))].length)*1≤140737488355328))<|
 .ret ⟨[.kill 1],[0],[(5,3)],4⟩ ((p_s0++[IntKind.wrap .u8 p_v.au])++[IntKind.wrap .u8 p_v.dD]))<|
 .jk Tryz.f206 1 [1,1,0,1,0,1,1,1,1,0,1] 1 (fun r_=>⟨[(0,.own 3),(3,.ptr 1 0),(16,.i_ p_v.au),(32,.b_ r_)],[.dead,aZ p_v,.dead,.row 5 1 ((p_s0++[IntKind.wrap .u8 p_v.au]).map (lfK .u8))]⟩) ⟨[(0,.own 3),(3,.ptr 1 0),(16,.i_ p_v.au),(32,.lf (.bool (p_v.au==4)))],[.dead,aZ p_v,.dead,.row 5 1 ((p_s0++[IntKind.wrap .u8 p_v.au]).map (lfK .u8))]⟩ (acG R_ p_s0 p_v) fun r2=>
 .iB (r2) (.cH [3] (AA p_v.fText (p_s0++[IntKind.wrap .u8 p_v.au])) fun r3 _=>
 .ret ⟨[.kill 1],[0],[(4,3)],4⟩ (r3))<|
 .iB (p_v.au==8) (.say [.rows (((p_s0++[IntKind.wrap .u8 p_v.au])++(numsOf (p_v.fText:ByteArray))).map (lfK .u8))] (ok1 (by first|(rw[List.map_append,eF];done)|(rw[eF,List.nil_append];done)|simp[lfI,lfK,eF]:((p_s0++[IntKind.wrap .u8 p_v.au])++(numsOf (p_v.fText:ByteArray))).map (lfK .u8)=((p_s0++[IntKind.wrap .u8 p_v.au]).map (lfK .u8))++oP (p_v.fText:ByteArray)))<|
 .grd ((p_s0++[IntKind.wrap .u8 p_v.au]).length+(p_v.fText:ByteArray).size≤140737488355328) fun h1=>
 .say [] (ok1 (by simpa using h1:((p_s0++[IntKind.wrap .u8 p_v.au]).map (lfK .u8)).length+(p_v.fText:ByteArray).size≤140737488355328))<|
 .ret ⟨[.kill 1],[0],[(4,3)],4⟩ ((p_s0++[IntKind.wrap .u8 p_v.au])++(numsOf (p_v.fText:ByteArray))))<|
 .iB (p_v.au==6) (.nu p_v.aU ah.lf<|
 .ask (Q81 (p_v.aU.length:Int) (p_s0++[IntKind.wrap .u8 p_v.au])) fun r4 h2=>
 .say [.fZ [3] (.own 1) [.dead,.row 5 1 (r4.map (lfK .u8))],.num p_v.aU.length] (okc (vC _ _ _ h2) (ok1 (ln_ p_v.aU ah.lf)))<|
 .l1y [.kill 1] Tryz.f206 1 [1,1,0,1,0,1,1,1,1,1,1,1,1,1,0,1,1,0] 0 (.exit 1) (fun(v0,l0)=>⟨[(0,.own 4),(53,.lf (.rows 5 (p_v.aU.map ah.lf))),(54,.i_ (p_v.aU.length:Int)),(55,.i_ v0)],[.dead,.dead,.dead,.dead,.row 5 1 (l0.map (lfK .u8))]⟩) (fun r_=>⟨[(0,.own 4)],[.dead,.dead,.dead,.dead,.row 5 1 (r_.map (lfK .u8))]⟩) (YC R_ p_v) (0,r4) fun r5=>
 .ret ⟨[],[0],[(4,3)],4⟩ (r5))<|
 .iB (p_v.au==5) (.nu p_v.aT ay.lf<|
 .ask (Q81 (p_v.aT.length:Int) (p_s0++[IntKind.wrap .u8 p_v.au])) fun r6 h3=>
 .say [.fZ [3] (.own 1) [.dead,.row 5 1 (r6.map (lfK .u8))],.num p_v.aT.length] (okc (vC _ _ _ h3) (ok1 (ln_ p_v.aT ay.lf)))<|
 .l1y [.kill 1] Tryz.f206 1 [1,1,0,1,0,1,1,1,1,1,1,1,1,1,1,1,0,1,1,0] 0 (.exit 3) (fun(v1,l1)=>⟨[(0,.own 4),(71,.lf (.rows 6 (p_v.aT.map ay.lf))),(72,.i_ (p_v.aT.length:Int)),(73,.i_ v1)],[.dead,.dead,.dead,.dead,.row 5 1 (l1.map (lfK .u8))]⟩) (fun r_=>⟨[(0,.own 4)],[.dead,.dead,.dead,.dead,.row 5 1 (r_.map (lfK .u8))]⟩) (YD R_ p_v) (0,r6) fun r7=>
 .ret ⟨[],[0],[(4,3)],4⟩ (r7))<|
 .ret ⟨[.kill 1],[0],[],4⟩ (p_s0++[IntKind.wrap .u8 p_v.au])
def ajf(R_:vF)(p_v:ah)(p_s0:List Int):Mo (List Int):=
 .say [.rows ((p_s0++[IntKind.wrap .u8 p_v.au]).map (lfK .u8))] (ok1 (by simp[lfI,lfK]:(p_s0++[IntKind.wrap .u8 p_v.au]).map (lfK .u8)=(p_s0.map (lfK .u8))++[((lfK .u8) (IntKind.wrap .u8 p_v.au))]))<|
 .grd ((p_s0.length+[IntKind.wrap .u8 p_v.au].length)*1≤140737488355328) fun h0=>
 .say [] (ok1 (by simpa using h0:((p_s0.map (lfK .u8)).length+[((lfK .u8) (IntKind.wrap .u8 p_v.au))].length)*1≤140737488355328))<|
 .jy [.kill 2] Tryz.f206 1 [1,1,0,1] 6 (.normal) (fun r_=>⟨[(0,.own 3)],[.dead,.dead,.dead,.row 5 1 (r_.map (lfK .u8))]⟩) ⟨[(0,.own 3),(3,.ptr 1 0),(16,.i_ p_v.au)],[.dead,aZ p_v,.dead,.row 5 1 ((p_s0++[IntKind.wrap .u8 p_v.au]).map (lfK .u8))]⟩ (YE R_ p_s0 p_v) fun r0=>
 .ret ⟨[.mvn 3],[0],[(4,1)],2⟩ (r0)
theorem ahj(R_:vF):U7 fun p_v p_s0=>Mo.den (ajf R_ p_v p_s0):=fun _ _=>dX Tryz.func206
def zk:Nat→vF
 |0=>{ m1:=fun p_v=>none,ok1:=fun _ _ h=>(by cases h),m2:=fun p_v p_s0=>none,ok2:=fun _ _ _ h=>(by cases h) }
 |n_+1=>{ m1:=fun p_v=>Mo.den (aje (zk n_) p_v),ok1:=ahi (zk n_),m2:=fun p_v p_s0=>Mo.den (ajf (zk n_) p_v p_s0),ok2:=ahj (zk n_) }
def Q66(p_v:ah):Option (List Int):=(zk FU).m1 p_v
theorem ale:JE Q66:=(zk FU).ok1
def alf(p_v:ah):Mo (ByteArray×Int):=
 .cl (tV p_v) fun r0 _=>
 .iB (!r0) (.ret (aX 2) (⟨#[]⟩,8))<|
 .ask (Q66 p_v) fun r1 h0=>
 .say [.fZ [] (.own 0) [.row 5 1 (r1.map (lfK .u8))],.nums r1] (okc (ale _ _ h0) (ok1 (by simp[lfI,lfK]:(r1.map (lfK .u8))=r1.map fun n=>[Lf.int .u8 n])))<|
 .ret (aX 2) (strOfNums r1,0)
def anI(p_v:ah):Option (ByteArray×Int):=Mo.den (alf p_v)
theorem ahk(p_v:ah):FV (anI p_v) 133 [.dat (ah.lf1 p_v)] (fun r=>.tup [.lf (.str r.1),.i_ r.2]):=bW Tryz.func133
def alg(p_v:ah)(p_b0:aA):Mo (aA):=
 .cl (wP p_v) fun r0 _=>
 .iB (r0) (.cH [0,1] (lG false p_b0) fun r1 _=>
 .ret ⟨[.kill 2,.mvn 3],[],[(4,2)],3⟩ (r1))<|
 .cl (tV p_v) fun r2 _=>
 .iB (!r2) (.stop)<|
 .cl (ahk p_v) fun r3 _=>
 .iB (r3.2 != 0) (.stop)<|
 .ask (anG true p_b0) fun r4 h0=>
 .say [.fZ [0,1] (.tup []) [.box 75 (.agg [.own 2,.b_ r4.dH]),.dead,.row 5 1 (r4.bH.map (lfK .u8))],.rows ((r4.bH++(numsOf (r3.1:ByteArray))).map (lfK .u8))] (okc (lG _ _ _ h0) (ok1 (by first|(rw[List.map_append,eF];done)|(rw[eF,List.nil_append];done)|simp[lfI,lfK,eF]:(r4.bH++(numsOf (r3.1:ByteArray))).map (lfK .u8)=(r4.bH.map (lfK .u8))++oP (r3.1:ByteArray))))<|
 .grd (r4.bH.length+(r3.1:ByteArray).size≤140737488355328) fun h1=>
 .say [] (ok1 (by simpa using h1:(r4.bH.map (lfK .u8)).length+(r3.1:ByteArray).size≤140737488355328))<|
 .ret ⟨[.kill 2,.mvn 4],[],[(5,2)],3⟩ (aA.mk (r4.bH++(numsOf (r3.1:ByteArray))) r4.dH)
def aoS(p_v:ah)(p_b0:aA):Option (aA):=Mo.den (alg p_v p_b0)
theorem qy(p_v:ah)(p_b0:aA):FH (aoS p_v p_b0) 76 [.ptr 0 0,.dat (ah.lf1 p_v)] [.box 75 (.agg [.own 1,.b_ p_b0.dH]),.row 5 1 (p_b0.bH.map (lfK .u8))] (fun _=>.tup []) (fun r=>[.box 75 (.agg [.own 2,.b_ r.dH]),.dead,.row 5 1 (r.bH.map (lfK .u8))]):=dX Tryz.func76
def YF(p_l:List ByteArray):(Int×Bool×(List Int))→Mo ((Int×Bool×(List Int))⊕(Bool×(List Int))):=fun(v0,v1,l0)=>
 .iB (decide ((v0:Int)<(p_l.length:Int))) (.stop)<|
 .rt [] 3 (.inr (v1,l0))
def alh(p_l:List ByteArray)(p_b0:aA):Mo (aA):=
 .nu p_l lfS<|
 .ask (Q14 (p_l.length:Int) p_b0) fun r0 h0=>
 .say [.fZ [0,1] (.tup []) [.box 75 (.agg [.own 2,.b_ r0.dH]),.dead,.row 5 1 (r0.bH.map (lfK .u8))],.num p_l.length] (okc (gq _ _ _ h0) (ok1 (ln_ p_l lfS)))<|
 .l1 Tryz.f208 2 [1,1,0] 0 (.exit 0) (fun(v0,v1,l0)=>⟨[(0,.ptr 0 0),(2,.raw (.func (.func 209) #[] #[])),(12,.lf (.rows 1 (p_l.map lfS))),(13,.i_ (p_l.length:Int)),(14,.i_ v0)],[.box 75 (.agg [.own 2,.b_ v1]),.dead,.row 5 1 (l0.map (lfK .u8))]⟩) (fun r_=>⟨[],[.box 75 (.agg [.own 2,.b_ r_.1]),.dead,.row 5 1 (r_.2.map (lfK .u8))]⟩) (YF p_l) (0,r0.dH,r0.bH) fun r1=>
 .ret ⟨[.mvn 2],[],[(3,2)],3⟩ (aA.mk r1.2 r1.1)
def aoT(p_l:List ByteArray)(p_b0:aA):Option (aA):=Mo.den (alh p_l p_b0)
theorem AB(p_l:List ByteArray)(p_b0:aA):FH (aoT p_l p_b0) 208 [.ptr 0 0,.lf (.rows 1 (p_l.map lfS)),.raw (.func (.func 209) #[] #[])] [.box 75 (.agg [.own 1,.b_ p_b0.dH]),.row 5 1 (p_b0.bH.map (lfK .u8))] (fun _=>.tup []) (fun r=>[.box 75 (.agg [.own 2,.b_ r.dH]),.dead,.row 5 1 (r.bH.map (lfK .u8))]):=dX Tryz.func208
def YG(p_l:List bn):(Int×Bool×(List Int))→Mo ((Int×Bool×(List Int))⊕(Bool×(List Int))):=fun(v0,v1,l0)=>
 .iB (decide ((v0:Int)<(p_l.length:Int))) (.stop)<|
 .rt [] 3 (.inr (v1,l0))
def ali(p_l:List bn)(p_b0:aA):Mo (aA):=
 .nu p_l bn.lf<|
 .ask (Q14 (p_l.length:Int) p_b0) fun r0 h0=>
 .say [.fZ [0,1] (.tup []) [.box 75 (.agg [.own 2,.b_ r0.dH]),.dead,.row 5 1 (r0.bH.map (lfK .u8))],.num p_l.length] (okc (gq _ _ _ h0) (ok1 (ln_ p_l bn.lf)))<|
 .l1 Tryz.f136 2 [1,1,0] 0 (.exit 0) (fun(v0,v1,l0)=>⟨[(0,.ptr 0 0),(2,.raw (.func (.func 137) #[] #[])),(12,.lf (.rows 2 (p_l.map bn.lf))),(13,.i_ (p_l.length:Int)),(14,.i_ v0)],[.box 75 (.agg [.own 2,.b_ v1]),.dead,.row 5 1 (l0.map (lfK .u8))]⟩) (fun r_=>⟨[],[.box 75 (.agg [.own 2,.b_ r_.1]),.dead,.row 5 1 (r_.2.map (lfK .u8))]⟩) (YG p_l) (0,r0.dH,r0.bH) fun r1=>
 .ret ⟨[.mvn 2],[],[(3,2)],3⟩ (aA.mk r1.2 r1.1)
def aoU(p_l:List bn)(p_b0:aA):Option (aA):=Mo.den (ali p_l p_b0)
theorem ahl(p_l:List bn)(p_b0:aA):FH (aoU p_l p_b0) 136 [.ptr 0 0,.lf (.rows 2 (p_l.map bn.lf)),.raw (.func (.func 137) #[] #[])] [.box 75 (.agg [.own 1,.b_ p_b0.dH]),.row 5 1 (p_b0.bH.map (lfK .u8))] (fun _=>.tup []) (fun r=>[.box 75 (.agg [.own 2,.b_ r.dH]),.dead,.row 5 1 (r.bH.map (lfK .u8))]):=dX Tryz.func136
def YH(p_l:List ah):(Int×Bool×(List Int))→Mo ((Int×Bool×(List Int))⊕(Bool×(List Int))):=fun(v0,v1,l0)=>
 .iB (decide ((v0:Int)<(p_l.length:Int))) (.stop)<|
 .rt [] 3 (.inr (v1,l0))
def alj(p_l:List ah)(p_b0:aA):Mo (aA):=
 .nu p_l ah.lf<|
 .ask (Q14 (p_l.length:Int) p_b0) fun r0 h0=>
 .say [.fZ [0,1] (.tup []) [.box 75 (.agg [.own 2,.b_ r0.dH]),.dead,.row 5 1 (r0.bH.map (lfK .u8))],.num p_l.length] (okc (gq _ _ _ h0) (ok1 (ln_ p_l ah.lf)))<|
 .l1 Tryz.f207 2 [1,1,0] 0 (.exit 0) (fun(v0,v1,l0)=>⟨[(0,.ptr 0 0),(2,.raw (.func (.func 76) #[] #[])),(12,.lf (.rows 5 (p_l.map ah.lf))),(13,.i_ (p_l.length:Int)),(14,.i_ v0)],[.box 75 (.agg [.own 2,.b_ v1]),.dead,.row 5 1 (l0.map (lfK .u8))]⟩) (fun r_=>⟨[],[.box 75 (.agg [.own 2,.b_ r_.1]),.dead,.row 5 1 (r_.2.map (lfK .u8))]⟩) (YH p_l) (0,r0.dH,r0.bH) fun r1=>
 .ret ⟨[.mvn 2],[],[(3,2)],3⟩ (aA.mk r1.2 r1.1)
def aoV(p_l:List ah)(p_b0:aA):Option (aA):=Mo.den (alj p_l p_b0)
theorem U8(p_l:List ah)(p_b0:aA):FH (aoV p_l p_b0) 207 [.ptr 0 0,.lf (.rows 5 (p_l.map ah.lf)),.raw (.func (.func 76) #[] #[])] [.box 75 (.agg [.own 1,.b_ p_b0.dH]),.row 5 1 (p_b0.bH.map (lfK .u8))] (fun _=>.tup []) (fun r=>[.box 75 (.agg [.own 2,.b_ r.dH]),.dead,.row 5 1 (r.bH.map (lfK .u8))]):=dX Tryz.func207
def YI(p_l:List bT):(Int×Bool×(List Int))→Mo ((Int×Bool×(List Int))⊕(Bool×(List Int))):=fun(v0,v1,l0)=>
 .iB (decide ((v0:Int)<(p_l.length:Int))) (.stop)<|
 .rt [] 3 (.inr (v1,l0))
def alk(p_l:List bT)(p_b0:aA):Mo (aA):=
 .nu p_l bT.lf<|
 .ask (Q14 (p_l.length:Int) p_b0) fun r0 h0=>
 .say [.fZ [0,1] (.tup []) [.box 75 (.agg [.own 2,.b_ r0.dH]),.dead,.row 5 1 (r0.bH.map (lfK .u8))],.num p_l.length] (okc (gq _ _ _ h0) (ok1 (ln_ p_l bT.lf)))<|
 .l1 Tryz.f213 2 [1,1,0] 0 (.exit 0) (fun(v0,v1,l0)=>⟨[(0,.ptr 0 0),(2,.raw (.func (.func 214) #[] #[])),(12,.lf (.rows 2 (p_l.map bT.lf))),(13,.i_ (p_l.length:Int)),(14,.i_ v0)],[.box 75 (.agg [.own 2,.b_ v1]),.dead,.row 5 1 (l0.map (lfK .u8))]⟩) (fun r_=>⟨[],[.box 75 (.agg [.own 2,.b_ r_.1]),.dead,.row 5 1 (r_.2.map (lfK .u8))]⟩) (YI p_l) (0,r0.dH,r0.bH) fun r1=>
 .ret ⟨[.mvn 2],[],[(3,2)],3⟩ (aA.mk r1.2 r1.1)
def aoW(p_l:List bT)(p_b0:aA):Option (aA):=Mo.den (alk p_l p_b0)
theorem ahm(p_l:List bT)(p_b0:aA):FH (aoW p_l p_b0) 213 [.ptr 0 0,.lf (.rows 2 (p_l.map bT.lf)),.raw (.func (.func 214) #[] #[])] [.box 75 (.agg [.own 1,.b_ p_b0.dH]),.row 5 1 (p_b0.bH.map (lfK .u8))] (fun _=>.tup []) (fun r=>[.box 75 (.agg [.own 2,.b_ r.dH]),.dead,.row 5 1 (r.bH.map (lfK .u8))]):=dX Tryz.func213
abbrev JF(m:aO→aA→Option (aA)):Prop:=∀p_e p_b0,FH (m p_e p_b0) 215 [.ptr 0 0,.dat (aO.lf1 p_e)] [.box 75 (.agg [.own 1,.b_ p_b0.dH]),.row 5 1 (p_b0.bH.map (lfK .u8))] (fun _=>.tup []) (fun r=>[.box 75 (.agg [.own 2,.b_ r.dH]),.dead,.row 5 1 (r.bH.map (lfK .u8))])
abbrev U9(m:(List aO)→aA→Option (aA)):Prop:=∀p_l p_b0,FH (m p_l p_b0) 279 [.ptr 0 0,.lf (.rows 11 (p_l.map aO.lf)),.raw (.func (.func 215) #[] #[])] [.box 75 (.agg [.own 1,.b_ p_b0.dH]),.row 5 1 (p_b0.bH.map (lfK .u8))] (fun _=>.tup []) (fun r=>[.box 75 (.agg [.own 2,.b_ r.dH]),.dead,.row 5 1 (r.bH.map (lfK .u8))])
structure YJ where
 m1:(p_e:aO)→(p_b0:aA)→Option (aA)
 ok1:JF m1
 m2:(p_l:List aO)→(p_b0:aA)→Option (aA)
 ok2:U9 m2
def acH(R_:YJ)(p_e:aO)(p_b0:aA):Mo (aA):=
 .cH [0,1] (gq p_e.fOp p_b0) fun r0 _=>
 .cH [0,3] (AB p_e.cZ r0) fun r1 _=>
 .cH [0,4] (qx p_e.fName r1) fun r2 _=>
 .cH [0,5] (AB p_e.eG r2) fun r3 _=>
 .cH [0,6] (qy p_e.fArg r3) fun r4 _=>
 .cH [0,7] (gq p_e.fN r4) fun r5 _=>
 .cH [0,8] (R_.ok2 p_e.bM r5) fun r6 _=>
 .ret ⟨[.kill 2,.mvn 9],[],[(10,2)],3⟩ (r6)
theorem acI(R_:YJ):JF fun p_e p_b0=>Mo.den (acH R_ p_e p_b0):=fun _ _=>dX Tryz.func215
def YK(R_:YJ)(p_l:List aO):(Int×Bool×(List Int))→Mo ((Int×Bool×(List Int))⊕(Bool×(List Int))):=fun(v0,v1,l0)=>
 .iB (decide ((v0:Int)<(p_l.length:Int))) (.stop)<|
 .rt [] 3 (.inr (v1,l0))
def acJ(R_:YJ)(p_l:List aO)(p_b0:aA):Mo (aA):=
 .nu p_l aO.lf<|
 .ask (Q14 (p_l.length:Int) p_b0) fun r0 h0=>
 .say [.fZ [0,1] (.tup []) [.box 75 (.agg [.own 2,.b_ r0.dH]),.dead,.row 5 1 (r0.bH.map (lfK .u8))],.num p_l.length] (okc (gq _ _ _ h0) (ok1 (ln_ p_l aO.lf)))<|
 .l1 Tryz.f279 2 [1,1,0] 0 (.exit 0) (fun(v0,v1,l0)=>⟨[(0,.ptr 0 0),(2,.raw (.func (.func 215) #[] #[])),(12,.lf (.rows 11 (p_l.map aO.lf))),(13,.i_ (p_l.length:Int)),(14,.i_ v0)],[.box 75 (.agg [.own 2,.b_ v1]),.dead,.row 5 1 (l0.map (lfK .u8))]⟩) (fun r_=>⟨[],[.box 75 (.agg [.own 2,.b_ r_.1]),.dead,.row 5 1 (r_.2.map (lfK .u8))]⟩) (YK R_ p_l) (0,r0.dH,r0.bH) fun r1=>
 .ret ⟨[.mvn 2],[],[(3,2)],3⟩ (aA.mk r1.2 r1.1)
theorem acK(R_:YJ):U9 fun p_l p_b0=>Mo.den (acJ R_ p_l p_b0):=fun _ _=>dX Tryz.func279
def zn:Nat→YJ
 |0=>{ m1:=fun p_e p_b0=>none,ok1:=fun _ _ _ h=>(by cases h),m2:=fun p_l p_b0=>none,ok2:=fun _ _ _ h=>(by cases h) }
 |n_+1=>{ m1:=fun p_e p_b0=>Mo.den (acH (zn n_) p_e p_b0),ok1:=acI (zn n_),m2:=fun p_l p_b0=>Mo.den (acJ (zn n_) p_l p_b0),ok2:=acK (zn n_) }
def aoX(p_e:aO)(p_b0:aA):Option (aA):=(zn FU).m1 p_e p_b0
theorem ahn:JF aoX:=(zn FU).ok1
abbrev JG(m:aN→aA→Option (aA)):Prop:=∀p_p p_b0,FH (m p_p p_b0) 138 [.ptr 0 0,.dat (aN.lf1 p_p)] [.box 75 (.agg [.own 1,.b_ p_b0.dH]),.row 5 1 (p_b0.bH.map (lfK .u8))] (fun _=>.tup []) (fun r=>[.box 75 (.agg [.own 2,.b_ r.dH]),.dead,.row 5 1 (r.bH.map (lfK .u8))])
abbrev Va(m:(List aN)→aA→Option (aA)):Prop:=∀p_l p_b0,FH (m p_l p_b0) 216 [.ptr 0 0,.lf (.rows 25 (p_l.map aN.lf)),.raw (.func (.func 138) #[] #[])] [.box 75 (.agg [.own 1,.b_ p_b0.dH]),.row 5 1 (p_b0.bH.map (lfK .u8))] (fun _=>.tup []) (fun r=>[.box 75 (.agg [.own 2,.b_ r.dH]),.dead,.row 5 1 (r.bH.map (lfK .u8))])
structure YL where
 m1:(p_p:aN)→(p_b0:aA)→Option (aA)
 ok1:JG m1
 m2:(p_l:List aN)→(p_b0:aA)→Option (aA)
 ok2:Va m2
def acL(R_:YL)(p_p:aN)(p_b0:aA):Mo (aA):=
 .cH [0,1] (gq p_p.fOp p_b0) fun r0 _=>
 .cH [0,3] (AB p_p.cZ r0) fun r1 _=>
 .cH [0,4] (qy p_p.fArg r1) fun r2 _=>
 .cH [0,5] (U8 p_p.fArgs r2) fun r3 _=>
 .cH [0,6] (gq p_p.fN r3) fun r4 _=>
 .cH [0,7] (gq p_p.fM r4) fun r5 _=>
 .cH [0,8] (gq p_p.dO.au r5) fun r6 _=>
 .cH [0,9] (ahm p_p.dO.cO r6) fun r7 _=>
 .cH [0,10] (gq p_p.dO.fR r7) fun r8 _=>
 .cH [0,11] (ahn p_p.fExpr r8) fun r9 _=>
 .cH [0,12] (R_.ok2 p_p.bM r9) fun r10 _=>
 .ret ⟨[.kill 2,.mvn 13],[],[(14,2)],3⟩ (r10)
theorem acM(R_:YL):JG fun p_p p_b0=>Mo.den (acL R_ p_p p_b0):=fun _ _=>dX Tryz.func138
def YM(R_:YL)(p_l:List aN):(Int×Bool×(List Int))→Mo ((Int×Bool×(List Int))⊕(Bool×(List Int))):=fun(v0,v1,l0)=>
 .iB (decide ((v0:Int)<(p_l.length:Int))) (.stop)<|
 .rt [] 3 (.inr (v1,l0))
def acN(R_:YL)(p_l:List aN)(p_b0:aA):Mo (aA):=
 .nu p_l aN.lf<|
 .ask (Q14 (p_l.length:Int) p_b0) fun r0 h0=>
 .say [.fZ [0,1] (.tup []) [.box 75 (.agg [.own 2,.b_ r0.dH]),.dead,.row 5 1 (r0.bH.map (lfK .u8))],.num p_l.length] (okc (gq _ _ _ h0) (ok1 (ln_ p_l aN.lf)))<|
 .l1 Tryz.f216 2 [1,1,0] 0 (.exit 0) (fun(v0,v1,l0)=>⟨[(0,.ptr 0 0),(2,.raw (.func (.func 138) #[] #[])),(12,.lf (.rows 25 (p_l.map aN.lf))),(13,.i_ (p_l.length:Int)),(14,.i_ v0)],[.box 75 (.agg [.own 2,.b_ v1]),.dead,.row 5 1 (l0.map (lfK .u8))]⟩) (fun r_=>⟨[],[.box 75 (.agg [.own 2,.b_ r_.1]),.dead,.row 5 1 (r_.2.map (lfK .u8))]⟩) (YM R_ p_l) (0,r0.dH,r0.bH) fun r1=>
 .ret ⟨[.mvn 2],[],[(3,2)],3⟩ (aA.mk r1.2 r1.1)
theorem acO(R_:YL):Va fun p_l p_b0=>Mo.den (acN R_ p_l p_b0):=fun _ _=>dX Tryz.func216
def zo:Nat→YL
 |0=>{ m1:=fun p_p p_b0=>none,ok1:=fun _ _ _ h=>(by cases h),m2:=fun p_l p_b0=>none,ok2:=fun _ _ _ h=>(by cases h) }
 |n_+1=>{ m1:=fun p_p p_b0=>Mo.den (acL (zo n_) p_p p_b0),ok1:=acM (zo n_),m2:=fun p_l p_b0=>Mo.den (acN (zo n_) p_l p_b0),ok2:=acO (zo n_) }
def aoY(p_p:aN)(p_b0:aA):Option (aA):=(zo FU).m1 p_p p_b0
theorem aho:JG aoY:=(zo FU).ok1
def alm(p_x:aQ)(p_b0:aA):Mo (aA):=
 .cH [0,1] (qx p_x.fName p_b0) fun r0 _=>
 .cH [0,3] (gq p_x.au r0) fun r1 _=>
 .cH [0,4] (ahl p_x.fJ r1) fun r2 _=>
 .cH [0,5] (lG p_x.fF r2) fun r3 _=>
 .cH [0,6] (lG p_x.jh r3) fun r4 _=>
 .cH [0,7] (lG p_x.iF r4) fun r5 _=>
 .cH [0,8] (aho p_x.bF r5) fun r6 _=>
 .ret ⟨[.kill 2,.mvn 9],[],[(10,2)],3⟩ (r6)
def aoZ(p_x:aQ)(p_b0:aA):Option (aA):=Mo.den (alm p_x p_b0)
theorem ahp(p_x:aQ)(p_b0:aA):FH (aoZ p_x p_b0) 78 [.ptr 0 0,.dat (aQ.lf1 p_x)] [.box 75 (.agg [.own 1,.b_ p_b0.dH]),.row 5 1 (p_b0.bH.map (lfK .u8))] (fun _=>.tup []) (fun r=>[.box 75 (.agg [.own 2,.b_ r.dH]),.dead,.row 5 1 (r.bH.map (lfK .u8))]):=dX Tryz.func78
def YN(p_l:List aQ):(Int×Bool×(List Int))→Mo ((Int×Bool×(List Int))⊕(Bool×(List Int))):=fun(v0,v1,l0)=>
 .iB (decide ((v0:Int)<(p_l.length:Int))) (.stop)<|
 .rt [] 3 (.inr (v1,l0))
def aln(p_l:List aQ)(p_b0:aA):Mo (aA):=
 .nu p_l aQ.lf<|
 .ask (Q14 (p_l.length:Int) p_b0) fun r0 h0=>
 .say [.fZ [0,1] (.tup []) [.box 75 (.agg [.own 2,.b_ r0.dH]),.dead,.row 5 1 (r0.bH.map (lfK .u8))],.num p_l.length] (okc (gq _ _ _ h0) (ok1 (ln_ p_l aQ.lf)))<|
 .l1 Tryz.f134 2 [1,1,0] 0 (.exit 0) (fun(v0,v1,l0)=>⟨[(0,.ptr 0 0),(2,.raw (.func (.func 78) #[] #[])),(12,.lf (.rows 31 (p_l.map aQ.lf))),(13,.i_ (p_l.length:Int)),(14,.i_ v0)],[.box 75 (.agg [.own 2,.b_ v1]),.dead,.row 5 1 (l0.map (lfK .u8))]⟩) (fun r_=>⟨[],[.box 75 (.agg [.own 2,.b_ r_.1]),.dead,.row 5 1 (r_.2.map (lfK .u8))]⟩) (YN p_l) (0,r0.dH,r0.bH) fun r1=>
 .ret ⟨[.mvn 2],[],[(3,2)],3⟩ (aA.mk r1.2 r1.1)
def ao0(p_l:List aQ)(p_b0:aA):Option (aA):=Mo.den (aln p_l p_b0)
theorem ahq(p_l:List aQ)(p_b0:aA):FH (ao0 p_l p_b0) 134 [.ptr 0 0,.lf (.rows 31 (p_l.map aQ.lf)),.raw (.func (.func 78) #[] #[])] [.box 75 (.agg [.own 1,.b_ p_b0.dH]),.row 5 1 (p_b0.bH.map (lfK .u8))] (fun _=>.tup []) (fun r=>[.box 75 (.agg [.own 2,.b_ r.dH]),.dead,.row 5 1 (r.bH.map (lfK .u8))]):=dX Tryz.func134
end
end Go.Proofs.YtflpefkohpjjpaaGreatDoor
set_option linter.unusedSimpArgs false
set_option linter.unusedVariables false
namespace Go.Proofs.YtflpefkohpjjpaaGreatDoor
open Go.RowKit
set_option maxRecDepth 20000
set_option maxHeartbeats 4000000
noncomputable section
abbrev JH(m:aH→aA→Option (aA)):Prop:=∀p_s p_b0,FH (m p_s p_b0) 135 [.ptr 0 0,.dat (aH.lf1 p_s)] [.box 75 (.agg [.own 1,.b_ p_b0.dH]),.row 5 1 (p_b0.bH.map (lfK .u8))] (fun _=>.tup []) (fun r=>[.box 75 (.agg [.own 2,.b_ r.dH]),.dead,.row 5 1 (r.bH.map (lfK .u8))])
abbrev Vb(m:(List bD)→aA→Option (aA)):Prop:=∀p_l p_b0,FH (m p_l p_b0) 210 [.ptr 0 0,.lf (.rows 22 (p_l.map bD.lf)),.raw (.func (.func 211) #[] #[])] [.box 75 (.agg [.own 1,.b_ p_b0.dH]),.row 5 1 (p_b0.bH.map (lfK .u8))] (fun _=>.tup []) (fun r=>[.box 75 (.agg [.own 2,.b_ r.dH]),.dead,.row 5 1 (r.bH.map (lfK .u8))])
abbrev Vd(m:(List aH)→aA→Option (aA)):Prop:=∀p_l p_b0,FH (m p_l p_b0) 212 [.ptr 0 0,.lf (.rows 21 (p_l.map aH.lf)),.raw (.func (.func 135) #[] #[])] [.box 75 (.agg [.own 1,.b_ p_b0.dH]),.row 5 1 (p_b0.bH.map (lfK .u8))] (fun _=>.tup []) (fun r=>[.box 75 (.agg [.own 2,.b_ r.dH]),.dead,.row 5 1 (r.bH.map (lfK .u8))])
abbrev Ve(m:bD→aA→Option (aA)):Prop:=∀p_p p_b0,FH (m p_p p_b0) 211 [.ptr 0 0,.dat (bD.lf1 p_p)] [.box 75 (.agg [.own 1,.b_ p_b0.dH]),.row 5 1 (p_b0.bH.map (lfK .u8))] (fun _=>.tup []) (fun r=>[.box 75 (.agg [.own 2,.b_ r.dH]),.dead,.row 5 1 (r.bH.map (lfK .u8))])
structure CP where
 m1:(p_s:aH)→(p_b0:aA)→Option (aA)
 ok1:JH m1
 m2:(p_l:List bD)→(p_b0:aA)→Option (aA)
 ok2:Vb m2
 m3:(p_l:List aH)→(p_b0:aA)→Option (aA)
 ok3:Vd m3
 m4:(p_p:bD)→(p_b0:aA)→Option (aA)
 ok4:Ve m4
def acP(R_:CP)(p_s:aH)(p_b0:aA):Mo (aA):=
 .cH [0,1] (gq p_s.ji p_b0) fun r0 _=>
 .cH [0,3] (lG p_s.jl r0) fun r1 _=>
 .cH [0,4] (qy p_s.jK r1) fun r2 _=>
 .cH [0,5] (lG p_s.jm r2) fun r3 _=>
 .cH [0,6] (qy p_s.jL r3) fun r4 _=>
 .cH [0,7] (U8 p_s.jS r4) fun r5 _=>
 .cH [0,8] (gq p_s.jo r5) fun r6 _=>
 .cH [0,9] (gq p_s.jq r6) fun r7 _=>
 .cH [0,10] (AB p_s.eY r7) fun r8 _=>
 .cH [0,11] (R_.ok2 p_s.dR r8) fun r9 _=>
 .cH [0,12] (lG p_s.jQ r9) fun r10 _=>
 .cH [0,13] (R_.ok3 p_s.fB r10) fun r11 _=>
 .cH [0,14] (lG p_s.fF r11) fun r12 _=>
 .ret ⟨[.kill 2,.mvn 15],[],[(16,2)],3⟩ (r12)
theorem acQ(R_:CP):JH fun p_s p_b0=>Mo.den (acP R_ p_s p_b0):=fun _ _=>dX Tryz.func135
def YO(R_:CP)(p_l:List bD):(Int×Bool×(List Int))→Mo ((Int×Bool×(List Int))⊕(Bool×(List Int))):=fun(v0,v1,l0)=>
 .iB (decide ((v0:Int)<(p_l.length:Int))) (.stop)<|
 .rt [] 3 (.inr (v1,l0))
def acR(R_:CP)(p_l:List bD)(p_b0:aA):Mo (aA):=
 .nu p_l bD.lf<|
 .ask (Q14 (p_l.length:Int) p_b0) fun r0 h0=>
 .say [.fZ [0,1] (.tup []) [.box 75 (.agg [.own 2,.b_ r0.dH]),.dead,.row 5 1 (r0.bH.map (lfK .u8))],.num p_l.length] (okc (gq _ _ _ h0) (ok1 (ln_ p_l bD.lf)))<|
 .l1 Tryz.f210 2 [1,1,0] 0 (.exit 0) (fun(v0,v1,l0)=>⟨[(0,.ptr 0 0),(2,.raw (.func (.func 211) #[] #[])),(12,.lf (.rows 22 (p_l.map bD.lf))),(13,.i_ (p_l.length:Int)),(14,.i_ v0)],[.box 75 (.agg [.own 2,.b_ v1]),.dead,.row 5 1 (l0.map (lfK .u8))]⟩) (fun r_=>⟨[],[.box 75 (.agg [.own 2,.b_ r_.1]),.dead,.row 5 1 (r_.2.map (lfK .u8))]⟩) (YO R_ p_l) (0,r0.dH,r0.bH) fun r1=>
 .ret ⟨[.mvn 2],[],[(3,2)],3⟩ (aA.mk r1.2 r1.1)
theorem acS(R_:CP):Vb fun p_l p_b0=>Mo.den (acR R_ p_l p_b0):=fun _ _=>dX Tryz.func210
def YP(R_:CP)(p_l:List aH):(Int×Bool×(List Int))→Mo ((Int×Bool×(List Int))⊕(Bool×(List Int))):=fun(v0,v1,l0)=>
 .iB (decide ((v0:Int)<(p_l.length:Int))) (.stop)<|
 .rt [] 3 (.inr (v1,l0))
def acT(R_:CP)(p_l:List aH)(p_b0:aA):Mo (aA):=
 .nu p_l aH.lf<|
 .ask (Q14 (p_l.length:Int) p_b0) fun r0 h0=>
 .say [.fZ [0,1] (.tup []) [.box 75 (.agg [.own 2,.b_ r0.dH]),.dead,.row 5 1 (r0.bH.map (lfK .u8))],.num p_l.length] (okc (gq _ _ _ h0) (ok1 (ln_ p_l aH.lf)))<|
 .l1 Tryz.f212 2 [1,1,0] 0 (.exit 0) (fun(v0,v1,l0)=>⟨[(0,.ptr 0 0),(2,.raw (.func (.func 135) #[] #[])),(12,.lf (.rows 21 (p_l.map aH.lf))),(13,.i_ (p_l.length:Int)),(14,.i_ v0)],[.box 75 (.agg [.own 2,.b_ v1]),.dead,.row 5 1 (l0.map (lfK .u8))]⟩) (fun r_=>⟨[],[.box 75 (.agg [.own 2,.b_ r_.1]),.dead,.row 5 1 (r_.2.map (lfK .u8))]⟩) (YP R_ p_l) (0,r0.dH,r0.bH) fun r1=>
 .ret ⟨[.mvn 2],[],[(3,2)],3⟩ (aA.mk r1.2 r1.1)
theorem acU(R_:CP):Vd fun p_l p_b0=>Mo.den (acT R_ p_l p_b0):=fun _ _=>dX Tryz.func212
def acV(R_:CP)(p_p:bD)(p_b0:aA):Mo (aA):=
 .cH [0,1] (qx p_p.fName p_b0) fun r0 _=>
 .cH [0,3] (R_.ok1 p_p.bC r0) fun r1 _=>
 .ret ⟨[.kill 2,.mvn 4],[],[(5,2)],3⟩ (r1)
theorem acW(R_:CP):Ve fun p_p p_b0=>Mo.den (acV R_ p_p p_b0):=fun _ _=>dX Tryz.func211
def oG:Nat→CP
 |0=>{ m1:=fun p_s p_b0=>none,ok1:=fun _ _ _ h=>(by cases h),m2:=fun p_l p_b0=>none,ok2:=fun _ _ _ h=>(by cases h),m3:=fun p_l p_b0=>none,ok3:=fun _ _ _ h=>(by cases h),m4:=fun p_p p_b0=>none,ok4:=fun _ _ _ h=>(by cases h) }
 |n_+1=>{ m1:=fun p_s p_b0=>Mo.den (acP (oG n_) p_s p_b0),ok1:=acQ (oG n_),m2:=fun p_l p_b0=>Mo.den (acR (oG n_) p_l p_b0),ok2:=acS (oG n_),m3:=fun p_l p_b0=>Mo.den (acT (oG n_) p_l p_b0),ok3:=acU (oG n_),m4:=fun p_p p_b0=>Mo.den (acV (oG n_) p_p p_b0),ok4:=acW (oG n_) }
def ao1(p_s:aH)(p_b0:aA):Option (aA):=(oG FU).m1 p_s p_b0
theorem ahr:JH ao1:=(oG FU).ok1
def alo(p_d:bU)(p_b0:aA):Mo (aA):=
 .cH [0,1] (qx p_d.fName p_b0) fun r0 _=>
 .cH [0,3] (ahq p_d.dw r0) fun r1 _=>
 .cH [0,4] (ahr p_d.bC r1) fun r2 _=>
 .cH [0,5] (gq p_d.ku r2) fun r3 _=>
 .cH [0,6] (gq p_d.jr r3) fun r4 _=>
 .ret ⟨[.kill 2,.mvn 7],[],[(8,2)],3⟩ (r4)
def ao2(p_d:bU)(p_b0:aA):Option (aA):=Mo.den (alo p_d p_b0)
theorem ahs(p_d:bU)(p_b0:aA):FH (ao2 p_d p_b0) 77 [.ptr 0 0,.dat (bU.lf1 p_d)] [.box 75 (.agg [.own 1,.b_ p_b0.dH]),.row 5 1 (p_b0.bH.map (lfK .u8))] (fun _=>.tup []) (fun r=>[.box 75 (.agg [.own 2,.b_ r.dH]),.dead,.row 5 1 (r.bH.map (lfK .u8))]):=dX Tryz.func77
def YQ(p_l:List Int):(Int×Bool×(List Int))→Mo ((Int×Bool×(List Int))⊕(Bool×(List Int))):=fun(v0,v1,l0)=>
 .iB (decide ((v0:Int)<(p_l.length:Int))) (.stop)<|
 .rt [] 3 (.inr (v1,l0))
def alp(p_l:List Int)(p_b0:aA):Mo (aA):=
 .nu p_l lfI<|
 .ask (Q14 (p_l.length:Int) p_b0) fun r0 h0=>
 .say [.fZ [0,1] (.tup []) [.box 75 (.agg [.own 2,.b_ r0.dH]),.dead,.row 5 1 (r0.bH.map (lfK .u8))],.num p_l.length] (okc (gq _ _ _ h0) (ok1 (ln_ p_l lfI)))<|
 .l1 Tryz.f80 2 [1,1,0] 0 (.exit 0) (fun(v0,v1,l0)=>⟨[(0,.ptr 0 0),(2,.raw (.func (.func 81) #[] #[])),(12,.lf (.rows 1 (p_l.map lfI))),(13,.i_ (p_l.length:Int)),(14,.i_ v0)],[.box 75 (.agg [.own 2,.b_ v1]),.dead,.row 5 1 (l0.map (lfK .u8))]⟩) (fun r_=>⟨[],[.box 75 (.agg [.own 2,.b_ r_.1]),.dead,.row 5 1 (r_.2.map (lfK .u8))]⟩) (YQ p_l) (0,r0.dH,r0.bH) fun r1=>
 .ret ⟨[.mvn 2],[],[(3,2)],3⟩ (aA.mk r1.2 r1.1)
def ao3(p_l:List Int)(p_b0:aA):Option (aA):=Mo.den (alp p_l p_b0)
theorem aht(p_l:List Int)(p_b0:aA):FH (ao3 p_l p_b0) 80 [.ptr 0 0,.lf (.rows 1 (p_l.map lfI)),.raw (.func (.func 81) #[] #[])] [.box 75 (.agg [.own 1,.b_ p_b0.dH]),.row 5 1 (p_b0.bH.map (lfK .u8))] (fun _=>.tup []) (fun r=>[.box 75 (.agg [.own 2,.b_ r.dH]),.dead,.row 5 1 (r.bH.map (lfK .u8))]):=dX Tryz.func80
abbrev JI(m:ak→aA→Option (aA)):Prop:=∀p_x p_b0,FH (m p_x p_b0) 36 [.ptr 0 0,.dat (ak.lf1 p_x)] [.box 75 (.agg [.own 1,.b_ p_b0.dH]),.row 5 1 (p_b0.bH.map (lfK .u8))] (fun _=>.tup []) (fun r=>[.box 75 (.agg [.own 2,.b_ r.dH]),.dead,.row 5 1 (r.bH.map (lfK .u8))])
abbrev Vf(m:(List ak)→aA→Option (aA)):Prop:=∀p_l p_b0,FH (m p_l p_b0) 79 [.ptr 0 0,.lf (.rows 78 (p_l.map ak.lf)),.raw (.func (.func 36) #[] #[])] [.box 75 (.agg [.own 1,.b_ p_b0.dH]),.row 5 1 (p_b0.bH.map (lfK .u8))] (fun _=>.tup []) (fun r=>[.box 75 (.agg [.own 2,.b_ r.dH]),.dead,.row 5 1 (r.bH.map (lfK .u8))])
structure YR where
 m1:(p_x:ak)→(p_b0:aA)→Option (aA)
 ok1:JI m1
 m2:(p_l:List ak)→(p_b0:aA)→Option (aA)
 ok2:Vf m2
def acX(R_:YR)(p_x:ak)(p_b0:aA):Mo (aA):=
 .cH [0,1] (gq p_x.au p_b0) fun r0 _=>
 .cH [0,3] (qx p_x.fC r0) fun r1 _=>
 .cH [0,4] (qy p_x.fO r1) fun r2 _=>
 .cH [0,5] (qy p_x.aT r2) fun r3 _=>
 .cH [0,6] (qy p_x.dG r3) fun r4 _=>
 .cH [0,7] (ahs p_x.dh r4) fun r5 _=>
 .cH [0,8] (ahp p_x.bf r5) fun r6 _=>
 .cH [0,9] (qx p_x.nN r6) fun r7 _=>
 .cH [0,10] (gq p_x.eU r7) fun r8 _=>
 .cH [0,11] (R_.ok2 p_x.aY r8) fun r9 _=>
 .cH [0,12] (aht p_x.dK r9) fun r10 _=>
 .cH [0,13] (lG p_x.iQ r10) fun r11 _=>
 .ret ⟨[.kill 2,.mvn 14],[],[(15,2)],3⟩ (r11)
theorem acY(R_:YR):JI fun p_x p_b0=>Mo.den (acX R_ p_x p_b0):=fun _ _=>dX Tryz.func36
def YS(R_:YR)(p_l:List ak):(Int×Bool×(List Int))→Mo ((Int×Bool×(List Int))⊕(Bool×(List Int))):=fun(v0,v1,l0)=>
 .iB (decide ((v0:Int)<(p_l.length:Int))) (.stop)<|
 .rt [] 3 (.inr (v1,l0))
def acZ(R_:YR)(p_l:List ak)(p_b0:aA):Mo (aA):=
 .nu p_l ak.lf<|
 .ask (Q14 (p_l.length:Int) p_b0) fun r0 h0=>
 .say [.fZ [0,1] (.tup []) [.box 75 (.agg [.own 2,.b_ r0.dH]),.dead,.row 5 1 (r0.bH.map (lfK .u8))],.num p_l.length] (okc (gq _ _ _ h0) (ok1 (ln_ p_l ak.lf)))<|
 .l1 Tryz.f79 2 [1,1,0] 0 (.exit 0) (fun(v0,v1,l0)=>⟨[(0,.ptr 0 0),(2,.raw (.func (.func 36) #[] #[])),(12,.lf (.rows 78 (p_l.map ak.lf))),(13,.i_ (p_l.length:Int)),(14,.i_ v0)],[.box 75 (.agg [.own 2,.b_ v1]),.dead,.row 5 1 (l0.map (lfK .u8))]⟩) (fun r_=>⟨[],[.box 75 (.agg [.own 2,.b_ r_.1]),.dead,.row 5 1 (r_.2.map (lfK .u8))]⟩) (YS R_ p_l) (0,r0.dH,r0.bH) fun r1=>
 .ret ⟨[.mvn 2],[],[(3,2)],3⟩ (aA.mk r1.2 r1.1)
theorem ac0(R_:YR):Vf fun p_l p_b0=>Mo.den (acZ R_ p_l p_b0):=fun _ _=>dX Tryz.func79
def zq:Nat→YR
 |0=>{ m1:=fun p_x p_b0=>none,ok1:=fun _ _ _ h=>(by cases h),m2:=fun p_l p_b0=>none,ok2:=fun _ _ _ h=>(by cases h) }
 |n_+1=>{ m1:=fun p_x p_b0=>Mo.den (acX (zq n_) p_x p_b0),ok1:=acY (zq n_),m2:=fun p_l p_b0=>Mo.den (acZ (zq n_) p_l p_b0),ok2:=ac0 (zq n_) }
def ao4(p_x:ak)(p_b0:aA):Option (aA):=(zq FU).m1 p_x p_b0
theorem ahu:JI ao4:=(zq FU).ok1
def alq(p_e:bG):Mo (ByteArray×Int):=
 .cl (Az p_e) fun r0 _=>
 .iB (r0 != 0) (.stop)<|
 .say [.at_ 12 3,.agh 1 0 5,.je 2 (([]:List Int).map (lfK .u8))] (ok1 (by simp[lfI,lfK]:(([]:List Int).map (lfK .u8))=[]))<|
 .cH [1,2] (gq p_e.rD (aA.mk ([]:List Int) false)) fun r1 _=>
 .cH [1,3] (gq p_e.eU r1) fun r2 _=>
 .cH [1,4] (qx p_e.jV r2) fun r3 _=>
 .cH [1,5] (gq p_e.ql r3) fun r4 _=>
 .cH [1,6] (ahu p_e.dA r4) fun r5 _=>
 .iB (r5.dH) (.stop)<|
 .say [.nums r5.bH] (ok1 (by simp[lfI,lfK]:(r5.bH.map (lfK .u8))=r5.bH.map fun n=>[Lf.int .u8 n]))<|
 .ret (aX 2) (strOfNums r5.bH,0)
def anJ(p_e:bG):Option (ByteArray×Int):=Mo.den (alq p_e)
theorem JJ(p_e:bG):FV (anJ p_e) 14 [.dat (bG.lf1 p_e)] (fun r=>.tup [.lf (.str r.1),.i_ r.2]):=bW Tryz.func14
def YT(p_at:Int)(p_s:ByteArray):Mo (Bool):=
 .iG 4002 (decide ((p_at:Int)<0)) (.stop)<|
 .rt [0,1,17] 0 (decide (((p_s.size:Int):Int)<p_at))
def YU(b0:UInt8)(p_at:Int)(p_s:ByteArray)(v0:Int)(v1:Int):Mo (Bool):=
 .iG 20002 (v1==9) (.stop)<|
 .rt [0,1,7,8,9,36] 0 (false)
def Ro(b0:UInt8)(p_at:Int)(p_s:ByteArray)(r0:Bool)(v0:Int)(v1:Int):Mo (Bool):=
 .iG 20006 (r0) (.stop)<|
 .iG 20009 (decide ((0:Int)<v1)) (.stop)<|
 .rt [0,1,7,8,9,44] 0 (false)
def Rq(p_at:Int)(p_s:ByteArray):(Int×Int)→Mo ((Int×Int)⊕(Int×Int×Int)):=fun(v0,v1)=>
 .iB ((IntKind.wrap .i64 (p_at+v1))==(p_s.size:Int)) (.rt [4,5,6] 0 (.inr (0,0,5)))<|
 .ask (iw p_s (IntKind.wrap .i64 (p_at+v1))) fun b0 h0=>
 .say [.byt b0] (ok1 (dL h0))<|
 .sf Tryz.f86 0 [1,1,1,1,0,0,0,0,1,1,0,0] 0 6 9 [(0,.lf (.str p_s)),(1,.i_ p_at),(7,.lf (.int .u64 v0)),(8,.i_ v1),(9,.lf (.int .u8 (b0.toNat:Int)))] [] 36 (YU b0 p_at p_s v0 v1) fun r0=>
 .sb Tryz.f86 0 [1,1,1,1,0,0,0,0,1,1,0,0] 6 8 9 [(0,.lf (.str p_s)),(1,.i_ p_at),(7,.lf (.int .u64 v0)),(8,.i_ v1),(9,.lf (.int .u8 (b0.toNat:Int)))] [] 36 44 r0 (Ro b0 p_at p_s r0 v0 v1) fun r1=>
 .iB (r1) (.stop)<|
 .grd ((0:Int)≤(IntKind.wrap .i64 (7*v1))) fun h1=>
 .say [] (ok1 h1)<|
 .iB (decide (((b0.toNat:Int):Int)<128)) (.say [] (ok1 (by decide:(0:Int)≤1))<|
 .rt [4,5,6] 0 (.inr (dI .xor .i64 (IntKind.wrap .i64 (kR .u64 (dI .or .u64 v0 (Bg .u64 (IntKind.wrap .u64 (dI .and .u8 (b0.toNat:Int) 127)) (IntKind.wrap .i64 (7*v1)))) 1)) (IntKind.wrap .i64 (0-(IntKind.wrap .i64 (dI .and .u64 (dI .or .u64 v0 (Bg .u64 (IntKind.wrap .u64 (dI .and .u8 (b0.toNat:Int) 127)) (IntKind.wrap .i64 (7*v1)))) 1)))),IntKind.wrap .i64 ((IntKind.wrap .i64 (p_at+v1))+1),0)))<|
 .stop
def alr(p_s:ByteArray)(p_at:Int):Mo (Int×Int×Int):=
 .jk Tryz.f86 0 [1,0,0] 9 (fun r_=>⟨[(0,.lf (.str p_s)),(1,.i_ p_at),(17,.b_ r_)],[]⟩) ⟨[(0,.lf (.str p_s)),(1,.i_ p_at)],[]⟩ (YT p_at p_s) fun r0=>
 .iB (r0) (.stop)<|
 .l1 Tryz.f86 0 [1,1,1,1,0] 0 .ret (fun(v0,v1)=>⟨[(0,.lf (.str p_s)),(1,.i_ p_at),(7,.lf (.int .u64 v0)),(8,.i_ v1)],[]⟩) (fun r_=>⟨[(4,.i_ r_.1),(5,.i_ r_.2.1),(6,.i_ r_.2.2)],[]⟩) (Rq p_at p_s) (0,0) fun r1=>
 .ret (aX 3) (r1.1,r1.2.1,r1.2.2)
def anK(p_s:ByteArray)(p_at:Int):Option (Int×Int×Int):=Mo.den (alr p_s p_at)
theorem ahv(p_s:ByteArray)(p_at:Int):FV (anK p_s p_at) 86 [.lf (.str p_s),.i_ p_at] (fun r=>.tup [.i_ r.1,.i_ r.2.1,.i_ r.2.2]):=bW Tryz.func86
def anL(p_b0:aj):Mo (Int×aj):=
 .iB (p_b0.dH) (.rt [0] 1 (0,p_b0))<|
 .ask (anK p_b0.gy p_b0.fat) fun r0 h0=>
 .say [.iD (.q 0 (.q 1 (.q 2 (.q 3 (.q 4 (.q 5 (.q 6 (.q 7 (.l 8 (.q 9 (.q 10 (.q 11 (.q 12 (.q 13 (.q 14 (.q 15 .fin)))))))))))))))) (some 8) [] [.res (.tup [.i_ r0.1,.i_ r0.2.1,.i_ r0.2.2])] [0,3,4,5] 1 [(0,.ptr 0 0),(3,.i_ r0.1),(4,.i_ r0.2.1),(5,.i_ r0.2.2)] [bI p_b0]] (okc (ahv _ _ _ h0) (ok1 (rf_ ⟨[(0,.ptr 0 0),(3,.i_ r0.1),(4,.i_ r0.2.1),(5,.i_ r0.2.2)],[bI p_b0]⟩)))<|
 .iB (r0.2.2 != 0) (.rt [0] 1 (0,aj.mk p_b0.gy p_b0.fat p_b0.eu true))<|
 .rt [0] 1 (r0.1,aj.mk p_b0.gy r0.2.1 p_b0.eu p_b0.dH)
def Q28(p_b0:aj):Option (Int×aj):=Mo.den (anL p_b0)
theorem gu(p_b0:aj):FH (Q28 p_b0) 38 [.ptr 0 0] [bI p_b0] (fun r=>.i_ r.1) (fun r=>[bI r.2]):=dX Tryz.func38
def YV(r0:Int×aj):Mo (Bool):=
 .say [.order [(true,0),(true,1),(true,2),(true,3),(true,4),(true,5),(true,6),(true,7),(true,8),(true,9),(true,10),(true,11),(true,12),(true,13),(true,14),(true,15),(true,16),(true,17),(true,18),(true,19),(true,20),(true,21)] none []] ok0<|
 .iG 6004 (r0.2.dH) (.rt [0,3,27] 1 (true))<|
 .iG 6008 (decide ((r0.1:Int)<0)) (.stop)<|
 .rt [0,3,27] 1 (decide ((IntKind.wrap .i64 ((r0.2.gy.size:Int)-r0.2.fat):Int)<r0.1))
def als(p_b0:aj):Mo (ByteArray×aj):=
 .cH [0] (gu p_b0) fun r0 _=>
 .jk Tryz.f39 1 [1,1,0,0] 11 (fun r_=>⟨[(0,.ptr 0 0),(3,.i_ r0.1),(27,.b_ r_)],[bI r0.2]⟩) ⟨[(0,.ptr 0 0),(3,.i_ r0.1)],[bI r0.2]⟩ (YV r0) fun r1=>
 .iB (r1) (.rt [0] 1 (⟨#[]⟩,aj.mk r0.2.gy r0.2.fat r0.2.eu true))<|
 .say [.order [(true,0),(true,1),(true,2),(true,3),(true,4),(true,5),(true,6),(true,7),(true,8),(true,9),(true,10),(true,11),(true,12),(true,13),(true,14),(true,15)] none []] ok0<|
 .grd ((0:Int)≤(IntKind.wrap .i64 ((IntKind.wrap .i64 (r0.2.fat+r0.1))-r0.1))∧(IntKind.wrap .i64 ((IntKind.wrap .i64 (r0.2.fat+r0.1))-r0.1))≤(IntKind.wrap .i64 (r0.2.fat+r0.1))∧(IntKind.wrap .i64 (r0.2.fat+r0.1))≤(r0.2.gy.size:Int)) fun h0=>
 .say [] (ok1 h0)<|
 .rt [0] 1 (r0.2.gy.extract (IntKind.wrap .i64 ((IntKind.wrap .i64 (r0.2.fat+r0.1))-r0.1)).toNat (IntKind.wrap .i64 (r0.2.fat+r0.1)).toNat,aj.mk r0.2.gy (IntKind.wrap .i64 (r0.2.fat+r0.1)) r0.2.eu r0.2.dH)
def ao5(p_b0:aj):Option (ByteArray×aj):=Mo.den (als p_b0)
theorem qA(p_b0:aj):FH (ao5 p_b0) 39 [.ptr 0 0] [bI p_b0] (fun r=>.lf (.str r.1)) (fun r=>[bI r.2]):=dX Tryz.func39
theorem ao6:EM (opsOf (Code.sub (bodyC Tryz.f93) [1,0,0])) [(true,0),(true,1),(true,2),(true,3),(true,4),(true,5),(true,6),(true,7),(true,8),(true,9),(true,10),(true,11),(true,12),(true,13),(true,14),(true,15),(true,16),(true,17),(true,18),(true,19),(true,20),(true,21),(true,22),(true,23),(true,24),(true,25),(true,26),(true,27)] none=true:=by kernel_rfl
def YW(p_b0:aj):Mo (Bool):=
 .say [.qY [(true,0),(true,1),(true,2),(true,3),(true,4),(true,5),(true,6),(true,7),(true,8),(true,9),(true,10),(true,11),(true,12),(true,13),(true,14),(true,15),(true,16),(true,17),(true,18),(true,19),(true,20),(true,21),(true,22),(true,23),(true,24),(true,25),(true,26),(true,27)] none []] (ok1 ao6)<|
 .iG 4004 (p_b0.dH) (.rt [0,30] 1 (true))<|
 .iG 4016 (decide (((p_b0.gy.size:Int):Int)≤p_b0.fat)) (.stop)<|
 .ask (iw p_b0.gy p_b0.fat) fun b0 h0=>
 .say [.byt b0] (ok1 (dL h0))<|
 .rt [0,30] 1 (decide ((1:Int)<(b0.toNat:Int)))
def alu(p_b0:aj):Mo (Bool×aj):=
 .jk Tryz.f93 1 [1,0,0] 9 (fun r_=>⟨[(0,.ptr 0 0),(30,.b_ r_)],[bI p_b0]⟩) ⟨[(0,.ptr 0 0)],[bI p_b0]⟩ (YW p_b0) fun r0=>
 .iB (r0) (.rt [0] 1 (false,aj.mk p_b0.gy p_b0.fat p_b0.eu true))<|
 .say [.order [(true,0),(true,1),(true,2),(true,3),(true,4),(true,5),(true,6),(true,7),(true,8),(true,9),(true,10),(true,11)] none []] ok0<|
 .ask (iw p_b0.gy (IntKind.wrap .i64 ((IntKind.wrap .i64 (p_b0.fat+1))-1))) fun b0 h0=>
 .say [.byt b0] (ok1 (dL h0))<|
 .rt [0] 1 ((b0.toNat:Int)==1,aj.mk p_b0.gy (IntKind.wrap .i64 (p_b0.fat+1)) p_b0.eu p_b0.dH)
def ao7(p_b0:aj):Option (Bool×aj):=Mo.den (alu p_b0)
theorem mG(p_b0:aj):FH (ao7 p_b0) 93 [.ptr 0 0] [bI p_b0] (fun r=>.b_ r.1) (fun r=>[bI r.2]):=dX Tryz.func93
def alv(p_b0:aj):Mo (ah×aj):=
 .cH [0] (mG p_b0) fun r0 _=>
 .iB (!r0.1) (.ret ⟨[.kill 1],[0],[],1⟩ (ah.mk 0 0 ⟨#[]⟩ [] [],r0.2))<|
 .ask (Q54 r0.2.gy r0.2.fat) fun r1 h0=>
 .say [.iD (.q 0 (.q 1 (.q 2 (.q 3 (.q 4 (.q 5 (.q 6 (.q 7 (.alt 8 (.q 9 (.q 10 (.q 11 (.q 12 (.l 13 (.l 14 (.q 15 (.q 16 .fin)))))))) (.l 13 (.l 8 (.q 9 (.q 10 (.q 11 (.q 12 (.l 14 (.q 15 (.q 16 .fin)))))))))))))))))) none [2] [.both [.at_ 8 8,.resv 1,.res (.tup [.dat (ah.lf1 r1.1),.i_ r1.2.1,.i_ r1.2.2]),.slot 2] [.at_ 8 13,.resv 1,.slot 2,.res (.tup [.dat (ah.lf1 r1.1),.i_ r1.2.1,.i_ r1.2.2])]] [0,2,3,4,5] 3 [(0,.ptr 0 0),(2,.ptr 1 0),(3,.ptr 2 0),(4,.i_ r1.2.1),(5,.i_ r1.2.2)] [bI r0.2,.box 25 (.agg [.i_ 0,.i_ 0,.lf (.str ⟨#[]⟩),.bJ 5,.bJ 6]),.box 25 (.agg [.i_ r1.1.au,.i_ r1.1.dD,.lf (.str r1.1.fText),.lf (.rows 5 (r1.1.aU.map ah.lf)),.lf (.rows 6 (r1.1.aT.map ay.lf))])]] (okc (abI _ _ _ h0) (okc (rf_ ⟨[(0,.ptr 0 0),(2,.ptr 1 0),(3,.ptr 2 0),(4,.i_ r1.2.1),(5,.i_ r1.2.2)],[bI r0.2,.box 25 (.agg [.i_ 0,.i_ 0,.lf (.str ⟨#[]⟩),.bJ 5,.bJ 6]),.box 25 (.agg [.i_ r1.1.au,.i_ r1.1.dD,.lf (.str r1.1.fText),.lf (.rows 5 (r1.1.aU.map ah.lf)),.lf (.rows 6 (r1.1.aT.map ay.lf))])]⟩) (okc (abI _ _ _ h0) (ok1 (rf_ ⟨[(0,.ptr 0 0),(2,.ptr 1 0),(3,.ptr 2 0),(4,.i_ r1.2.1),(5,.i_ r1.2.2)],[bI r0.2,.box 25 (.agg [.i_ 0,.i_ 0,.lf (.str ⟨#[]⟩),.bJ 5,.bJ 6]),.box 25 (.agg [.i_ r1.1.au,.i_ r1.1.dD,.lf (.str r1.1.fText),.lf (.rows 5 (r1.1.aU.map ah.lf)),.lf (.rows 6 (r1.1.aT.map ay.lf))])]⟩)))))<|
 .iB (r1.2.2 != 0) (.stop)<|
 .ret ⟨[.kill 1,.kill 2],[0],[],1⟩ (r1.1,aj.mk r0.2.gy r1.2.1 r0.2.eu r0.2.dH)
def ao8(p_b0:aj):Option (ah×aj):=Mo.den (alv p_b0)
theorem qB(p_b0:aj):FH (ao8 p_b0) 87 [.ptr 0 0] [bI p_b0] (fun r=>.dat (ah.lf1 r.1)) (fun r=>[bI r.2]):=dX Tryz.func87
def oZ(r0:Int×aj):Mo (Bool):=
 .iG 6002 (decide ((r0.1:Int)<0)) (.stop)<|
 .rt [0,1,5,18] 1 (decide ((64:Int)≤r0.2.eu))
def o7(r0:Int×aj)(r1:Bool):Mo (aj):=
 .iB (r1) (.stop)<|
 .rt [0,1,5] 1 (r0.2)
def YX(l0:List ByteArray)(r0:Int×aj)(s6548:aj)(v0:Int):Mo (Bool):=
 .iG 16003 (decide ((v0:Int)<r0.1)) (.stop)<|
 .rt [0,1,5,6,7,38] 2 (false)
def YZ(r0:Int×aj):(Int×aj×(List ByteArray))→Mo ((Int×aj×(List ByteArray))⊕(aj×(List ByteArray))):=fun(v0,s6548,l0)=>
 .jk Tryz.f225 1 [1,1,1,1,1,0,1,0,0,0,0] 21 (fun r_=>⟨[(0,.ptr 0 0),(1,.raw (.func (.func 226) #[] #[])),(5,.i_ r0.1),(6,.own 1),(7,.i_ v0),(38,.b_ r_)],[bI s6548,.row 9 1 (l0.map lfS)]⟩) ⟨[(0,.ptr 0 0),(1,.raw (.func (.func 226) #[] #[])),(5,.i_ r0.1),(6,.own 1),(7,.i_ v0)],[bI s6548,.row 9 1 (l0.map lfS)]⟩ (YX l0 r0 s6548 v0) fun r1=>
 .iB (r1) (.stop)<|
 .rt [0,6] 2 (.inr (s6548,l0))
def anM(p_b0:aj):Mo ((List ByteArray)×aj):=
 .cH [0] (gu p_b0) fun r0 _=>
 .jk Tryz.f225 1 [1,1,0,0] 11 (fun r_=>⟨[(0,.ptr 0 0),(1,.raw (.func (.func 226) #[] #[])),(5,.i_ r0.1),(18,.b_ r_)],[bI r0.2]⟩) ⟨[(0,.ptr 0 0),(1,.raw (.func (.func 226) #[] #[])),(5,.i_ r0.1)],[bI r0.2]⟩ (oZ r0) fun r1=>
 .jk Tryz.f225 1 [1,1,0,1] 1 (fun r_=>⟨[(0,.ptr 0 0),(1,.raw (.func (.func 226) #[] #[])),(5,.i_ r0.1)],[bI r_]⟩) ⟨[(0,.ptr 0 0),(1,.raw (.func (.func 226) #[] #[])),(5,.i_ r0.1),(18,.b_ r1)],[bI r0.2]⟩ (o7 r0 r1) fun r2=>
 .say [] (ok1 (by simp[lfS]:(([]:List ByteArray).map lfS)=[]))<|
 .l1y [.mW 6 9 1,.je 1 (([]:List ByteArray).map lfS)] Tryz.f225 1 [1,1,1,1,1,0,1,0] 0 (.exit 0) (fun(v0,s6548,l0)=>⟨[(0,.ptr 0 0),(1,.raw (.func (.func 226) #[] #[])),(5,.i_ r0.1),(6,.own 1),(7,.i_ v0)],[bI s6548,.row 9 1 (l0.map lfS)]⟩) (fun r_=>⟨[(0,.ptr 0 0),(6,.own 1)],[bI r_.1,.row 9 1 (r_.2.map lfS)]⟩) (YZ r0) (0,(aj.mk r2.gy r2.fat (IntKind.wrap .i64 (r2.eu+1)) r2.dH),([]:List ByteArray)) fun r3=>
 .ret ⟨[.mvn 1],[0],[(2,1)],2⟩ (r3.2,aj.mk r3.1.gy r3.1.fat (IntKind.wrap .i64 (r3.1.eu-1)) r3.1.dH)
def Q27(p_b0:aj):Option ((List ByteArray)×aj):=Mo.den (anM p_b0)
theorem JK(p_b0:aj):FH (Q27 p_b0) 225 [.ptr 0 0,.raw (.func (.func 226) #[] #[])] [bI p_b0] (fun _=>.own 1) (fun r=>[bI r.2,.row 9 1 (r.1.map lfS)]):=dX Tryz.func225
def Ru(l0:List bn)(r0:Int×aj)(s6639:aj)(v0:Int):Mo (Bool):=
 .iG 16003 (decide ((v0:Int)<r0.1)) (.stop)<|
 .rt [0,1,5,6,7,38] 2 (false)
def Rw(r0:Int×aj):(Int×aj×(List bn))→Mo ((Int×aj×(List bn))⊕(aj×(List bn))):=fun(v0,s6639,l0)=>
 .jk Tryz.f147 1 [1,1,1,1,1,0,1,0,0,0,0] 21 (fun r_=>⟨[(0,.ptr 0 0),(1,.raw (.func (.func 148) #[] #[])),(5,.i_ r0.1),(6,.own 1),(7,.i_ v0),(38,.b_ r_)],[bI s6639,.row 149 2 (l0.map bn.lf)]⟩) ⟨[(0,.ptr 0 0),(1,.raw (.func (.func 148) #[] #[])),(5,.i_ r0.1),(6,.own 1),(7,.i_ v0)],[bI s6639,.row 149 2 (l0.map bn.lf)]⟩ (Ru l0 r0 s6639 v0) fun r1=>
 .iB (r1) (.stop)<|
 .rt [0,6] 2 (.inr (s6639,l0))
def alx(p_b0:aj):Mo ((List bn)×aj):=
 .cH [0] (gu p_b0) fun r0 _=>
 .jk Tryz.f147 1 [1,1,0,0] 11 (fun r_=>⟨[(0,.ptr 0 0),(1,.raw (.func (.func 148) #[] #[])),(5,.i_ r0.1),(18,.b_ r_)],[bI r0.2]⟩) ⟨[(0,.ptr 0 0),(1,.raw (.func (.func 148) #[] #[])),(5,.i_ r0.1)],[bI r0.2]⟩ (oZ r0) fun r1=>
 .jk Tryz.f147 1 [1,1,0,1] 1 (fun r_=>⟨[(0,.ptr 0 0),(1,.raw (.func (.func 148) #[] #[])),(5,.i_ r0.1)],[bI r_]⟩) ⟨[(0,.ptr 0 0),(1,.raw (.func (.func 148) #[] #[])),(5,.i_ r0.1),(18,.b_ r1)],[bI r0.2]⟩ (o7 r0 r1) fun r2=>
 .say [] (ok1 (by simp[bn.aS]:(([]:List bn).map bn.lf)=[]))<|
 .l1y [.mW 6 149 2,.je 1 (([]:List bn).map bn.lf)] Tryz.f147 1 [1,1,1,1,1,0,1,0] 0 (.exit 0) (fun(v0,s6639,l0)=>⟨[(0,.ptr 0 0),(1,.raw (.func (.func 148) #[] #[])),(5,.i_ r0.1),(6,.own 1),(7,.i_ v0)],[bI s6639,.row 149 2 (l0.map bn.lf)]⟩) (fun r_=>⟨[(0,.ptr 0 0),(6,.own 1)],[bI r_.1,.row 149 2 (r_.2.map bn.lf)]⟩) (Rw r0) (0,(aj.mk r2.gy r2.fat (IntKind.wrap .i64 (r2.eu+1)) r2.dH),([]:List bn)) fun r3=>
 .ret ⟨[.mvn 1],[0],[(2,1)],2⟩ (r3.2,aj.mk r3.1.gy r3.1.fat (IntKind.wrap .i64 (r3.1.eu-1)) r3.1.dH)
def ao9(p_b0:aj):Option ((List bn)×aj):=Mo.den (alx p_b0)
theorem ahw(p_b0:aj):FH (ao9 p_b0) 147 [.ptr 0 0,.raw (.func (.func 148) #[] #[])] [bI p_b0] (fun _=>.own 1) (fun r=>[bI r.2,.row 149 2 (r.1.map bn.lf)]):=dX Tryz.func147
def Rx(l0:List ah)(r0:Int×aj)(s6771:aj)(v0:Int):Mo (Bool):=
 .iG 16003 (decide ((v0:Int)<r0.1)) (.stop)<|
 .rt [0,1,5,6,7,38] 2 (false)
def Ry(r0:Int×aj):(Int×aj×(List ah))→Mo ((Int×aj×(List ah))⊕(aj×(List ah))):=fun(v0,s6771,l0)=>
 .jk Tryz.f224 1 [1,1,1,1,1,0,1,0,0,0,0] 21 (fun r_=>⟨[(0,.ptr 0 0),(1,.raw (.func (.func 87) #[] #[])),(5,.i_ r0.1),(6,.own 1),(7,.i_ v0),(38,.b_ r_)],[bI s6771,.row 25 5 (l0.map ah.lf)]⟩) ⟨[(0,.ptr 0 0),(1,.raw (.func (.func 87) #[] #[])),(5,.i_ r0.1),(6,.own 1),(7,.i_ v0)],[bI s6771,.row 25 5 (l0.map ah.lf)]⟩ (Rx l0 r0 s6771 v0) fun r1=>
 .iB (r1) (.stop)<|
 .rt [0,6] 2 (.inr (s6771,l0))
def aly(p_b0:aj):Mo ((List ah)×aj):=
 .cH [0] (gu p_b0) fun r0 _=>
 .jk Tryz.f224 1 [1,1,0,0] 11 (fun r_=>⟨[(0,.ptr 0 0),(1,.raw (.func (.func 87) #[] #[])),(5,.i_ r0.1),(18,.b_ r_)],[bI r0.2]⟩) ⟨[(0,.ptr 0 0),(1,.raw (.func (.func 87) #[] #[])),(5,.i_ r0.1)],[bI r0.2]⟩ (oZ r0) fun r1=>
 .jk Tryz.f224 1 [1,1,0,1] 1 (fun r_=>⟨[(0,.ptr 0 0),(1,.raw (.func (.func 87) #[] #[])),(5,.i_ r0.1)],[bI r_]⟩) ⟨[(0,.ptr 0 0),(1,.raw (.func (.func 87) #[] #[])),(5,.i_ r0.1),(18,.b_ r1)],[bI r0.2]⟩ (o7 r0 r1) fun r2=>
 .say [] (ok1 (by simp[ah.aS]:(([]:List ah).map ah.lf)=[]))<|
 .l1y [.mW 6 25 5,.je 1 (([]:List ah).map ah.lf)] Tryz.f224 1 [1,1,1,1,1,0,1,0] 0 (.exit 0) (fun(v0,s6771,l0)=>⟨[(0,.ptr 0 0),(1,.raw (.func (.func 87) #[] #[])),(5,.i_ r0.1),(6,.own 1),(7,.i_ v0)],[bI s6771,.row 25 5 (l0.map ah.lf)]⟩) (fun r_=>⟨[(0,.ptr 0 0),(6,.own 1)],[bI r_.1,.row 25 5 (r_.2.map ah.lf)]⟩) (Ry r0) (0,(aj.mk r2.gy r2.fat (IntKind.wrap .i64 (r2.eu+1)) r2.dH),([]:List ah)) fun r3=>
 .ret ⟨[.mvn 1],[0],[(2,1)],2⟩ (r3.2,aj.mk r3.1.gy r3.1.fat (IntKind.wrap .i64 (r3.1.eu-1)) r3.1.dH)
def apa(p_b0:aj):Option ((List ah)×aj):=Mo.den (aly p_b0)
theorem Vg(p_b0:aj):FH (apa p_b0) 224 [.ptr 0 0,.raw (.func (.func 87) #[] #[])] [bI p_b0] (fun _=>.own 1) (fun r=>[bI r.2,.row 25 5 (r.1.map ah.lf)]):=dX Tryz.func224
def Rz(l0:List bT)(r0:Int×aj)(s6897:aj)(v0:Int):Mo (Bool):=
 .iG 16003 (decide ((v0:Int)<r0.1)) (.stop)<|
 .rt [0,1,5,6,7,38] 2 (false)
def RD(r0:Int×aj):(Int×aj×(List bT))→Mo ((Int×aj×(List bT))⊕(aj×(List bT))):=fun(v0,s6897,l0)=>
 .jk Tryz.f230 1 [1,1,1,1,1,0,1,0,0,0,0] 21 (fun r_=>⟨[(0,.ptr 0 0),(1,.raw (.func (.func 231) #[] #[])),(5,.i_ r0.1),(6,.own 1),(7,.i_ v0),(38,.b_ r_)],[bI s6897,.row 229 2 (l0.map bT.lf)]⟩) ⟨[(0,.ptr 0 0),(1,.raw (.func (.func 231) #[] #[])),(5,.i_ r0.1),(6,.own 1),(7,.i_ v0)],[bI s6897,.row 229 2 (l0.map bT.lf)]⟩ (Rz l0 r0 s6897 v0) fun r1=>
 .iB (r1) (.stop)<|
 .rt [0,6] 2 (.inr (s6897,l0))
def alz(p_b0:aj):Mo ((List bT)×aj):=
 .cH [0] (gu p_b0) fun r0 _=>
 .jk Tryz.f230 1 [1,1,0,0] 11 (fun r_=>⟨[(0,.ptr 0 0),(1,.raw (.func (.func 231) #[] #[])),(5,.i_ r0.1),(18,.b_ r_)],[bI r0.2]⟩) ⟨[(0,.ptr 0 0),(1,.raw (.func (.func 231) #[] #[])),(5,.i_ r0.1)],[bI r0.2]⟩ (oZ r0) fun r1=>
 .jk Tryz.f230 1 [1,1,0,1] 1 (fun r_=>⟨[(0,.ptr 0 0),(1,.raw (.func (.func 231) #[] #[])),(5,.i_ r0.1)],[bI r_]⟩) ⟨[(0,.ptr 0 0),(1,.raw (.func (.func 231) #[] #[])),(5,.i_ r0.1),(18,.b_ r1)],[bI r0.2]⟩ (o7 r0 r1) fun r2=>
 .say [] (ok1 (by simp[bT.aS]:(([]:List bT).map bT.lf)=[]))<|
 .l1y [.mW 6 229 2,.je 1 (([]:List bT).map bT.lf)] Tryz.f230 1 [1,1,1,1,1,0,1,0] 0 (.exit 0) (fun(v0,s6897,l0)=>⟨[(0,.ptr 0 0),(1,.raw (.func (.func 231) #[] #[])),(5,.i_ r0.1),(6,.own 1),(7,.i_ v0)],[bI s6897,.row 229 2 (l0.map bT.lf)]⟩) (fun r_=>⟨[(0,.ptr 0 0),(6,.own 1)],[bI r_.1,.row 229 2 (r_.2.map bT.lf)]⟩) (RD r0) (0,(aj.mk r2.gy r2.fat (IntKind.wrap .i64 (r2.eu+1)) r2.dH),([]:List bT)) fun r3=>
 .ret ⟨[.mvn 1],[0],[(2,1)],2⟩ (r3.2,aj.mk r3.1.gy r3.1.fat (IntKind.wrap .i64 (r3.1.eu-1)) r3.1.dH)
def apb(p_b0:aj):Option ((List bT)×aj):=Mo.den (alz p_b0)
theorem ahx(p_b0:aj):FH (apb p_b0) 230 [.ptr 0 0,.raw (.func (.func 231) #[] #[])] [bI p_b0] (fun _=>.own 1) (fun r=>[bI r.2,.row 229 2 (r.1.map bT.lf)]):=dX Tryz.func230
abbrev JL(m:aj→Option (aO×aj)):Prop:=∀p_b0,FH (m p_b0) 232 [.ptr 0 0] [bI p_b0] (fun r=>.dat (aO.lf1 r.1)) (fun r=>[bI r.2])
abbrev Vh(m:aj→Option ((List aO)×aj)):Prop:=∀p_b0,FH (m p_b0) 289 [.ptr 0 0,.raw (.func (.func 232) #[] #[])] [bI p_b0] (fun r=>.lf (.rows 11 (r.1.map aO.lf))) (fun r=>[bI r.2])
structure JM where
 m1:(p_b0:aj)→Option (aO×aj)
 ok1:JL m1
 m2:(p_b0:aj)→Option ((List aO)×aj)
 ok2:Vh m2
def ac1(R_:JM)(p_b0:aj):Mo (aO×aj):=
 .cH [0] (gu p_b0) fun r0 _=>
 .cH [0] (JK r0.2) fun r1 _=>
 .cH [0] (qA r1.2) fun r2 _=>
 .cH [0] (JK r2.2) fun r3 _=>
 .cH [0] (qB r3.2) fun r4 _=>
 .cH [0] (gu r4.2) fun r5 _=>
 .cH [0] (R_.ok2 r5.2) fun r6 _=>
 .ret ⟨[.frz 2,.frz 3,.tod 0,.kill 1],[0],[],1⟩ (aO.mk r0.1 r1.1 r2.1 r3.1 r4.1 r5.1 r6.1,r6.2)
theorem ac2(R_:JM):JL fun p_b0=>Mo.den (ac1 R_ p_b0):=fun _=>dX Tryz.func232
def ac3(R_:JM)(r0:Int×aj):Mo (Bool):=
 .iG 6002 (decide ((r0.1:Int)<0)) (.stop)<|
 .rt [0,1,5,18] 1 (decide ((64:Int)≤r0.2.eu))
def ac4(R_:JM)(r0:Int×aj)(r1:Bool):Mo (aj):=
 .iB (r1) (.stop)<|
 .rt [0,1,5] 1 (r0.2)
def Y0(R_:JM)(l0:List aO)(r0:Int×aj)(s7037:aj)(v0:Int):Mo (Bool):=
 .iG 16003 (decide ((v0:Int)<r0.1)) (.stop)<|
 .rt [0,1,5,6,7,38] 2 (false)
def Y1(R_:JM)(r0:Int×aj):(Int×aj×(List aO))→Mo ((Int×aj×(List aO))⊕(aj×(List aO))):=fun(v0,s7037,l0)=>
 .jk Tryz.f289 1 [1,1,1,1,1,0,1,0,0,0,0] 21 (fun r_=>⟨[(0,.ptr 0 0),(1,.raw (.func (.func 232) #[] #[])),(5,.i_ r0.1),(6,.own 1),(7,.i_ v0),(38,.b_ r_)],[bI s7037,.row 40 11 (l0.map aO.lf)]⟩) ⟨[(0,.ptr 0 0),(1,.raw (.func (.func 232) #[] #[])),(5,.i_ r0.1),(6,.own 1),(7,.i_ v0)],[bI s7037,.row 40 11 (l0.map aO.lf)]⟩ (Y0 R_ l0 r0 s7037 v0) fun r1=>
 .iB (r1) (.stop)<|
 .rt [0,6] 2 (.inr (s7037,l0))
def ajg(R_:JM)(p_b0:aj):Mo ((List aO)×aj):=
 .cH [0] (gu p_b0) fun r0 _=>
 .jk Tryz.f289 1 [1,1,0,0] 11 (fun r_=>⟨[(0,.ptr 0 0),(1,.raw (.func (.func 232) #[] #[])),(5,.i_ r0.1),(18,.b_ r_)],[bI r0.2]⟩) ⟨[(0,.ptr 0 0),(1,.raw (.func (.func 232) #[] #[])),(5,.i_ r0.1)],[bI r0.2]⟩ (ac3 R_ r0) fun r1=>
 .jk Tryz.f289 1 [1,1,0,1] 1 (fun r_=>⟨[(0,.ptr 0 0),(1,.raw (.func (.func 232) #[] #[])),(5,.i_ r0.1)],[bI r_]⟩) ⟨[(0,.ptr 0 0),(1,.raw (.func (.func 232) #[] #[])),(5,.i_ r0.1),(18,.b_ r1)],[bI r0.2]⟩ (ac4 R_ r0 r1) fun r2=>
 .say [] (ok1 (by simp[aO.aS]:(([]:List aO).map aO.lf)=[]))<|
 .l1y [.mW 6 40 11,.je 1 (([]:List aO).map aO.lf)] Tryz.f289 1 [1,1,1,1,1,0,1,0] 0 (.exit 0) (fun(v0,s7037,l0)=>⟨[(0,.ptr 0 0),(1,.raw (.func (.func 232) #[] #[])),(5,.i_ r0.1),(6,.own 1),(7,.i_ v0)],[bI s7037,.row 40 11 (l0.map aO.lf)]⟩) (fun r_=>⟨[(0,.ptr 0 0),(6,.own 1)],[bI r_.1,.row 40 11 (r_.2.map aO.lf)]⟩) (Y1 R_ r0) (0,(aj.mk r2.gy r2.fat (IntKind.wrap .i64 (r2.eu+1)) r2.dH),([]:List aO)) fun r3=>
 .ret ⟨[.frz 1],[0],[],1⟩ (r3.2,aj.mk r3.1.gy r3.1.fat (IntKind.wrap .i64 (r3.1.eu-1)) r3.1.dH)
theorem ahy(R_:JM):Vh fun p_b0=>Mo.den (ajg R_ p_b0):=fun _=>dX Tryz.func289
def zu:Nat→JM
 |0=>{ m1:=fun p_b0=>none,ok1:=fun _ _ h=>(by cases h),m2:=fun p_b0=>none,ok2:=fun _ _ h=>(by cases h) }
 |n_+1=>{ m1:=fun p_b0=>Mo.den (ac1 (zu n_) p_b0),ok1:=ac2 (zu n_),m2:=fun p_b0=>Mo.den (ajg (zu n_) p_b0),ok2:=ahy (zu n_) }
def apc(p_b0:aj):Option (aO×aj):=(zu FU).m1 p_b0
theorem ahz:JL apc:=(zu FU).ok1
abbrev JO(m:aj→Option (aN×aj)):Prop:=∀p_b0,FH (m p_b0) 149 [.ptr 0 0] [bI p_b0] (fun r=>.dat (aN.lf1 r.1)) (fun r=>[bI r.2])
abbrev Vj(m:aj→Option ((List aN)×aj)):Prop:=∀p_b0,FH (m p_b0) 233 [.ptr 0 0,.raw (.func (.func 149) #[] #[])] [bI p_b0] (fun r=>.lf (.rows 25 (r.1.map aN.lf))) (fun r=>[bI r.2])
structure JQ where
 m1:(p_b0:aj)→Option (aN×aj)
 ok1:JO m1
 m2:(p_b0:aj)→Option ((List aN)×aj)
 ok2:Vj m2
def ac5(R_:JQ)(p_b0:aj):Mo (aN×aj):=
 .cH [0] (gu p_b0) fun r0 _=>
 .cH [0] (JK r0.2) fun r1 _=>
 .cH [0] (qB r1.2) fun r2 _=>
 .cH [0] (Vg r2.2) fun r3 _=>
 .cH [0] (gu r3.2) fun r4 _=>
 .cH [0] (gu r4.2) fun r5 _=>
 .cH [0] (gu r5.2) fun r6 _=>
 .cH [0] (ahx r6.2) fun r7 _=>
 .cH [0] (gu r7.2) fun r8 _=>
 .cH [0] (ahz r8.2) fun r9 _=>
 .cH [0] (R_.ok2 r9.2) fun r10 _=>
 .ret ⟨[.frz 2,.frz 3,.frz 4,.tod 0,.kill 1],[0],[],1⟩ (aN.mk r0.1 r1.1 r2.1 r3.1 r4.1 r5.1 (dJ.mk r6.1 r7.1 r8.1) r9.1 r10.1,r10.2)
theorem ac6(R_:JQ):JO fun p_b0=>Mo.den (ac5 R_ p_b0):=fun _=>dX Tryz.func149
def ac7(R_:JQ)(r0:Int×aj):Mo (Bool):=
 .iG 6002 (decide ((r0.1:Int)<0)) (.stop)<|
 .rt [0,1,5,18] 1 (decide ((64:Int)≤r0.2.eu))
def ac8(R_:JQ)(r0:Int×aj)(r1:Bool):Mo (aj):=
 .iB (r1) (.stop)<|
 .rt [0,1,5] 1 (r0.2)
def Y2(R_:JQ)(l0:List aN)(r0:Int×aj)(s7149:aj)(v0:Int):Mo (Bool):=
 .iG 16003 (decide ((v0:Int)<r0.1)) (.stop)<|
 .rt [0,1,5,6,7,38] 2 (false)
def Y3(R_:JQ)(r0:Int×aj):(Int×aj×(List aN))→Mo ((Int×aj×(List aN))⊕(aj×(List aN))):=fun(v0,s7149,l0)=>
 .jk Tryz.f233 1 [1,1,1,1,1,0,1,0,0,0,0] 21 (fun r_=>⟨[(0,.ptr 0 0),(1,.raw (.func (.func 149) #[] #[])),(5,.i_ r0.1),(6,.own 1),(7,.i_ v0),(38,.b_ r_)],[bI s7149,.row 43 25 (l0.map aN.lf)]⟩) ⟨[(0,.ptr 0 0),(1,.raw (.func (.func 149) #[] #[])),(5,.i_ r0.1),(6,.own 1),(7,.i_ v0)],[bI s7149,.row 43 25 (l0.map aN.lf)]⟩ (Y2 R_ l0 r0 s7149 v0) fun r1=>
 .iB (r1) (.stop)<|
 .rt [0,6] 2 (.inr (s7149,l0))
def ajh(R_:JQ)(p_b0:aj):Mo ((List aN)×aj):=
 .cH [0] (gu p_b0) fun r0 _=>
 .jk Tryz.f233 1 [1,1,0,0] 11 (fun r_=>⟨[(0,.ptr 0 0),(1,.raw (.func (.func 149) #[] #[])),(5,.i_ r0.1),(18,.b_ r_)],[bI r0.2]⟩) ⟨[(0,.ptr 0 0),(1,.raw (.func (.func 149) #[] #[])),(5,.i_ r0.1)],[bI r0.2]⟩ (ac7 R_ r0) fun r1=>
 .jk Tryz.f233 1 [1,1,0,1] 1 (fun r_=>⟨[(0,.ptr 0 0),(1,.raw (.func (.func 149) #[] #[])),(5,.i_ r0.1)],[bI r_]⟩) ⟨[(0,.ptr 0 0),(1,.raw (.func (.func 149) #[] #[])),(5,.i_ r0.1),(18,.b_ r1)],[bI r0.2]⟩ (ac8 R_ r0 r1) fun r2=>
 .say [] (ok1 (by simp[aN.aS]:(([]:List aN).map aN.lf)=[]))<|
 .l1y [.mW 6 43 25,.je 1 (([]:List aN).map aN.lf)] Tryz.f233 1 [1,1,1,1,1,0,1,0] 0 (.exit 0) (fun(v0,s7149,l0)=>⟨[(0,.ptr 0 0),(1,.raw (.func (.func 149) #[] #[])),(5,.i_ r0.1),(6,.own 1),(7,.i_ v0)],[bI s7149,.row 43 25 (l0.map aN.lf)]⟩) (fun r_=>⟨[(0,.ptr 0 0),(6,.own 1)],[bI r_.1,.row 43 25 (r_.2.map aN.lf)]⟩) (Y3 R_ r0) (0,(aj.mk r2.gy r2.fat (IntKind.wrap .i64 (r2.eu+1)) r2.dH),([]:List aN)) fun r3=>
 .ret ⟨[.frz 1],[0],[],1⟩ (r3.2,aj.mk r3.1.gy r3.1.fat (IntKind.wrap .i64 (r3.1.eu-1)) r3.1.dH)
theorem ahA(R_:JQ):Vj fun p_b0=>Mo.den (ajh R_ p_b0):=fun _=>dX Tryz.func233
def zx:Nat→JQ
 |0=>{ m1:=fun p_b0=>none,ok1:=fun _ _ h=>(by cases h),m2:=fun p_b0=>none,ok2:=fun _ _ h=>(by cases h) }
 |n_+1=>{ m1:=fun p_b0=>Mo.den (ac5 (zx n_) p_b0),ok1:=ac6 (zx n_),m2:=fun p_b0=>Mo.den (ajh (zx n_) p_b0),ok2:=ahA (zx n_) }
def apd(p_b0:aj):Option (aN×aj):=(zx FU).m1 p_b0
theorem ahB:JO apd:=(zx FU).ok1
def alA(p_b0:aj):Mo (aQ×aj):=
 .cH [0] (qA p_b0) fun r0 _=>
 .cH [0] (gu r0.2) fun r1 _=>
 .cH [0] (ahw r1.2) fun r2 _=>
 .cH [0] (mG r2.2) fun r3 _=>
 .cH [0] (mG r3.2) fun r4 _=>
 .cH [0] (mG r4.2) fun r5 _=>
 .cH [0] (ahB r5.2) fun r6 _=>
 .ret ⟨[.kill 1,.mvn 2],[0],[(3,1)],2⟩ (aQ.mk r0.1 r1.1 r2.1 r3.1 r4.1 r5.1 r6.1,r6.2)
def ape(p_b0:aj):Option (aQ×aj):=Mo.den (alA p_b0)
theorem ahC(p_b0:aj):FH (ape p_b0) 89 [.ptr 0 0] [bI p_b0] (fun r=>Xe (.agg ((aQ.lf1 r.1).map AV.lf)) [(2,.own 1)]) (fun r=>[bI r.2,.row 149 2 (r.1.fJ.map bn.lf)]):=dX Tryz.func89
def RF(l0:List aQ)(r0:Int×aj)(s7236:aj)(v0:Int):Mo (Bool):=
 .iG 16003 (decide ((v0:Int)<r0.1)) (.stop)<|
 .rt [0,1,5,6,7,38] 2 (false)
def RG(r0:Int×aj):(Int×aj×(List aQ))→Mo ((Int×aj×(List aQ))⊕(aj×(List aQ))):=fun(v0,s7236,l0)=>
 .jk Tryz.f145 1 [1,1,1,1,1,0,1,0,0,0,0] 21 (fun r_=>⟨[(0,.ptr 0 0),(1,.raw (.func (.func 89) #[] #[])),(5,.i_ r0.1),(6,.own 1),(7,.i_ v0),(38,.b_ r_)],[bI s7236,.row 45 31 (l0.map aQ.lf)]⟩) ⟨[(0,.ptr 0 0),(1,.raw (.func (.func 89) #[] #[])),(5,.i_ r0.1),(6,.own 1),(7,.i_ v0)],[bI s7236,.row 45 31 (l0.map aQ.lf)]⟩ (RF l0 r0 s7236 v0) fun r1=>
 .iB (r1) (.stop)<|
 .rt [0,6] 2 (.inr (s7236,l0))
def alB(p_b0:aj):Mo ((List aQ)×aj):=
 .cH [0] (gu p_b0) fun r0 _=>
 .jk Tryz.f145 1 [1,1,0,0] 11 (fun r_=>⟨[(0,.ptr 0 0),(1,.raw (.func (.func 89) #[] #[])),(5,.i_ r0.1),(18,.b_ r_)],[bI r0.2]⟩) ⟨[(0,.ptr 0 0),(1,.raw (.func (.func 89) #[] #[])),(5,.i_ r0.1)],[bI r0.2]⟩ (oZ r0) fun r1=>
 .jk Tryz.f145 1 [1,1,0,1] 1 (fun r_=>⟨[(0,.ptr 0 0),(1,.raw (.func (.func 89) #[] #[])),(5,.i_ r0.1)],[bI r_]⟩) ⟨[(0,.ptr 0 0),(1,.raw (.func (.func 89) #[] #[])),(5,.i_ r0.1),(18,.b_ r1)],[bI r0.2]⟩ (o7 r0 r1) fun r2=>
 .say [] (ok1 (by simp[aQ.aS]:(([]:List aQ).map aQ.lf)=[]))<|
 .l1y [.mW 6 45 31,.je 1 (([]:List aQ).map aQ.lf)] Tryz.f145 1 [1,1,1,1,1,0,1,0] 0 (.exit 0) (fun(v0,s7236,l0)=>⟨[(0,.ptr 0 0),(1,.raw (.func (.func 89) #[] #[])),(5,.i_ r0.1),(6,.own 1),(7,.i_ v0)],[bI s7236,.row 45 31 (l0.map aQ.lf)]⟩) (fun r_=>⟨[(0,.ptr 0 0),(6,.own 1)],[bI r_.1,.row 45 31 (r_.2.map aQ.lf)]⟩) (RG r0) (0,(aj.mk r2.gy r2.fat (IntKind.wrap .i64 (r2.eu+1)) r2.dH),([]:List aQ)) fun r3=>
 .ret ⟨[.mvn 1],[0],[(2,1)],2⟩ (r3.2,aj.mk r3.1.gy r3.1.fat (IntKind.wrap .i64 (r3.1.eu-1)) r3.1.dH)
def apf(p_b0:aj):Option ((List aQ)×aj):=Mo.den (alB p_b0)
theorem ahD(p_b0:aj):FH (apf p_b0) 145 [.ptr 0 0,.raw (.func (.func 89) #[] #[])] [bI p_b0] (fun _=>.own 1) (fun r=>[bI r.2,.row 45 31 (r.1.map aQ.lf)]):=dX Tryz.func145
abbrev JR(m:aj→Option (aH×aj)):Prop:=∀p_b0,FH (m p_b0) 146 [.ptr 0 0] [bI p_b0] (fun r=>.dat (aH.lf1 r.1)) (fun r=>[bI r.2])
abbrev Vk(m:aj→Option ((List bD)×aj)):Prop:=∀p_b0,FH (m p_b0) 227 [.ptr 0 0,.raw (.func (.func 228) #[] #[])] [bI p_b0] (fun r=>.lf (.rows 22 (r.1.map bD.lf))) (fun r=>[bI r.2])
abbrev Vl(m:aj→Option ((List aH)×aj)):Prop:=∀p_b0,FH (m p_b0) 229 [.ptr 0 0,.raw (.func (.func 146) #[] #[])] [bI p_b0] (fun r=>.lf (.rows 21 (r.1.map aH.lf))) (fun r=>[bI r.2])
abbrev Vm(m:aj→Option (bD×aj)):Prop:=∀p_b0,FH (m p_b0) 228 [.ptr 0 0] [bI p_b0] (fun r=>.dat (bD.lf1 r.1)) (fun r=>[bI r.2])
structure vG where
 m1:(p_b0:aj)→Option (aH×aj)
 ok1:JR m1
 m2:(p_b0:aj)→Option ((List bD)×aj)
 ok2:Vk m2
 m3:(p_b0:aj)→Option ((List aH)×aj)
 ok3:Vl m3
 m4:(p_b0:aj)→Option (bD×aj)
 ok4:Vm m4
def ac9(R_:vG)(p_b0:aj):Mo (aH×aj):=
 .cH [0] (gu p_b0) fun r0 _=>
 .cH [0] (mG r0.2) fun r1 _=>
 .cH [0] (qB r1.2) fun r2 _=>
 .cH [0] (mG r2.2) fun r3 _=>
 .cH [0] (qB r3.2) fun r4 _=>
 .cH [0] (Vg r4.2) fun r5 _=>
 .cH [0] (gu r5.2) fun r6 _=>
 .cH [0] (gu r6.2) fun r7 _=>
 .cH [0] (JK r7.2) fun r8 _=>
 .cH [0] (R_.ok2 r8.2) fun r9 _=>
 .cH [0] (mG r9.2) fun r10 _=>
 .cH [0] (R_.ok3 r10.2) fun r11 _=>
 .cH [0] (mG r11.2) fun r12 _=>
 .ret ⟨[.frz 2,.frz 3,.tod 0,.kill 1],[0],[],1⟩ (aH.mk r0.1 r1.1 r2.1 r3.1 r4.1 r5.1 r6.1 r7.1 r8.1 r9.1 r10.1 r11.1 r12.1,r12.2)
theorem ada(R_:vG):JR fun p_b0=>Mo.den (ac9 R_ p_b0):=fun _=>dX Tryz.func146
def NH(R_:vG)(r0:Int×aj):Mo (Bool):=
 .iG 6002 (decide ((r0.1:Int)<0)) (.stop)<|
 .rt [0,1,5,18] 1 (decide ((64:Int)≤r0.2.eu))
def NI(R_:vG)(r0:Int×aj)(r1:Bool):Mo (aj):=
 .iB (r1) (.stop)<|
 .rt [0,1,5] 1 (r0.2)
def Y4(R_:vG)(l0:List bD)(r0:Int×aj)(s7396:aj)(v0:Int):Mo (Bool):=
 .iG 16003 (decide ((v0:Int)<r0.1)) (.stop)<|
 .rt [0,1,5,6,7,38] 2 (false)
def Y5(R_:vG)(r0:Int×aj):(Int×aj×(List bD))→Mo ((Int×aj×(List bD))⊕(aj×(List bD))):=fun(v0,s7396,l0)=>
 .jk Tryz.f227 1 [1,1,1,1,1,0,1,0,0,0,0] 21 (fun r_=>⟨[(0,.ptr 0 0),(1,.raw (.func (.func 228) #[] #[])),(5,.i_ r0.1),(6,.own 1),(7,.i_ v0),(38,.b_ r_)],[bI s7396,.row 224 22 (l0.map bD.lf)]⟩) ⟨[(0,.ptr 0 0),(1,.raw (.func (.func 228) #[] #[])),(5,.i_ r0.1),(6,.own 1),(7,.i_ v0)],[bI s7396,.row 224 22 (l0.map bD.lf)]⟩ (Y4 R_ l0 r0 s7396 v0) fun r1=>
 .iB (r1) (.stop)<|
 .rt [0,6] 2 (.inr (s7396,l0))
def aji(R_:vG)(p_b0:aj):Mo ((List bD)×aj):=
 .cH [0] (gu p_b0) fun r0 _=>
 .jk Tryz.f227 1 [1,1,0,0] 11 (fun r_=>⟨[(0,.ptr 0 0),(1,.raw (.func (.func 228) #[] #[])),(5,.i_ r0.1),(18,.b_ r_)],[bI r0.2]⟩) ⟨[(0,.ptr 0 0),(1,.raw (.func (.func 228) #[] #[])),(5,.i_ r0.1)],[bI r0.2]⟩ (NH R_ r0) fun r1=>
 .jk Tryz.f227 1 [1,1,0,1] 1 (fun r_=>⟨[(0,.ptr 0 0),(1,.raw (.func (.func 228) #[] #[])),(5,.i_ r0.1)],[bI r_]⟩) ⟨[(0,.ptr 0 0),(1,.raw (.func (.func 228) #[] #[])),(5,.i_ r0.1),(18,.b_ r1)],[bI r0.2]⟩ (NI R_ r0 r1) fun r2=>
 .say [] (ok1 (by simp[bD.aS]:(([]:List bD).map bD.lf)=[]))<|
 .l1y [.mW 6 224 22,.je 1 (([]:List bD).map bD.lf)] Tryz.f227 1 [1,1,1,1,1,0,1,0] 0 (.exit 0) (fun(v0,s7396,l0)=>⟨[(0,.ptr 0 0),(1,.raw (.func (.func 228) #[] #[])),(5,.i_ r0.1),(6,.own 1),(7,.i_ v0)],[bI s7396,.row 224 22 (l0.map bD.lf)]⟩) (fun r_=>⟨[(0,.ptr 0 0),(6,.own 1)],[bI r_.1,.row 224 22 (r_.2.map bD.lf)]⟩) (Y5 R_ r0) (0,(aj.mk r2.gy r2.fat (IntKind.wrap .i64 (r2.eu+1)) r2.dH),([]:List bD)) fun r3=>
 .ret ⟨[.frz 1],[0],[],1⟩ (r3.2,aj.mk r3.1.gy r3.1.fat (IntKind.wrap .i64 (r3.1.eu-1)) r3.1.dH)
theorem ahE(R_:vG):Vk fun p_b0=>Mo.den (aji R_ p_b0):=fun _=>dX Tryz.func227
def RH(R_:vG)(l0:List aH)(r0:Int×aj)(s7500:aj)(v0:Int):Mo (Bool):=
 .iG 16003 (decide ((v0:Int)<r0.1)) (.stop)<|
 .rt [0,1,5,6,7,38] 2 (false)
def RI(R_:vG)(r0:Int×aj):(Int×aj×(List aH))→Mo ((Int×aj×(List aH))⊕(aj×(List aH))):=fun(v0,s7500,l0)=>
 .jk Tryz.f229 1 [1,1,1,1,1,0,1,0,0,0,0] 21 (fun r_=>⟨[(0,.ptr 0 0),(1,.raw (.func (.func 146) #[] #[])),(5,.i_ r0.1),(6,.own 1),(7,.i_ v0),(38,.b_ r_)],[bI s7500,.row 31 21 (l0.map aH.lf)]⟩) ⟨[(0,.ptr 0 0),(1,.raw (.func (.func 146) #[] #[])),(5,.i_ r0.1),(6,.own 1),(7,.i_ v0)],[bI s7500,.row 31 21 (l0.map aH.lf)]⟩ (RH R_ l0 r0 s7500 v0) fun r1=>
 .iB (r1) (.stop)<|
 .rt [0,6] 2 (.inr (s7500,l0))
def adb(R_:vG)(p_b0:aj):Mo ((List aH)×aj):=
 .cH [0] (gu p_b0) fun r0 _=>
 .jk Tryz.f229 1 [1,1,0,0] 11 (fun r_=>⟨[(0,.ptr 0 0),(1,.raw (.func (.func 146) #[] #[])),(5,.i_ r0.1),(18,.b_ r_)],[bI r0.2]⟩) ⟨[(0,.ptr 0 0),(1,.raw (.func (.func 146) #[] #[])),(5,.i_ r0.1)],[bI r0.2]⟩ (NH R_ r0) fun r1=>
 .jk Tryz.f229 1 [1,1,0,1] 1 (fun r_=>⟨[(0,.ptr 0 0),(1,.raw (.func (.func 146) #[] #[])),(5,.i_ r0.1)],[bI r_]⟩) ⟨[(0,.ptr 0 0),(1,.raw (.func (.func 146) #[] #[])),(5,.i_ r0.1),(18,.b_ r1)],[bI r0.2]⟩ (NI R_ r0 r1) fun r2=>
 .say [] (ok1 (by simp[aH.aS]:(([]:List aH).map aH.lf)=[]))<|
 .l1y [.mW 6 31 21,.je 1 (([]:List aH).map aH.lf)] Tryz.f229 1 [1,1,1,1,1,0,1,0] 0 (.exit 0) (fun(v0,s7500,l0)=>⟨[(0,.ptr 0 0),(1,.raw (.func (.func 146) #[] #[])),(5,.i_ r0.1),(6,.own 1),(7,.i_ v0)],[bI s7500,.row 31 21 (l0.map aH.lf)]⟩) (fun r_=>⟨[(0,.ptr 0 0),(6,.own 1)],[bI r_.1,.row 31 21 (r_.2.map aH.lf)]⟩) (RI R_ r0) (0,(aj.mk r2.gy r2.fat (IntKind.wrap .i64 (r2.eu+1)) r2.dH),([]:List aH)) fun r3=>
 .ret ⟨[.frz 1],[0],[],1⟩ (r3.2,aj.mk r3.1.gy r3.1.fat (IntKind.wrap .i64 (r3.1.eu-1)) r3.1.dH)
theorem ade(R_:vG):Vl fun p_b0=>Mo.den (adb R_ p_b0):=fun _=>dX Tryz.func229
def adf(R_:vG)(p_b0:aj):Mo (bD×aj):=
 .cH [0] (qA p_b0) fun r0 _=>
 .cH [0] (R_.ok1 r0.2) fun r1 _=>
 .ret ⟨[.kill 1],[0],[],1⟩ (bD.mk r0.1 r1.1,r1.2)
theorem adg(R_:vG):Vm fun p_b0=>Mo.den (adf R_ p_b0):=fun _=>dX Tryz.func228
def oH:Nat→vG
 |0=>{ m1:=fun p_b0=>none,ok1:=fun _ _ h=>(by cases h),m2:=fun p_b0=>none,ok2:=fun _ _ h=>(by cases h),m3:=fun p_b0=>none,ok3:=fun _ _ h=>(by cases h),m4:=fun p_b0=>none,ok4:=fun _ _ h=>(by cases h) }
 |n_+1=>{ m1:=fun p_b0=>Mo.den (ac9 (oH n_) p_b0),ok1:=ada (oH n_),m2:=fun p_b0=>Mo.den (aji (oH n_) p_b0),ok2:=ahE (oH n_),m3:=fun p_b0=>Mo.den (adb (oH n_) p_b0),ok3:=ade (oH n_),m4:=fun p_b0=>Mo.den (adf (oH n_) p_b0),ok4:=adg (oH n_) }
def apg(p_b0:aj):Option (aH×aj):=(oH FU).m1 p_b0
theorem ahF:JR apg:=(oH FU).ok1
def alC(p_b0:aj):Mo (bU×aj):=
 .cH [0] (qA p_b0) fun r0 _=>
 .cH [0] (ahD r0.2) fun r1 _=>
 .cH [0] (ahF r1.2) fun r2 _=>
 .cH [0] (gu r2.2) fun r3 _=>
 .cH [0] (gu r3.2) fun r4 _=>
 .ret ⟨[.kill 1,.mvn 2],[0],[(3,1)],2⟩ (bU.mk r0.1 r1.1 r2.1 r3.1 r4.1,r4.2)
def aph(p_b0:aj):Option (bU×aj):=Mo.den (alC p_b0)
theorem ahG(p_b0:aj):FH (aph p_b0) 88 [.ptr 0 0] [bI p_b0] (fun r=>Xe (.agg ((bU.lf1 r.1).map AV.lf)) [(1,.own 1)]) (fun r=>[bI r.2,.row 45 31 (r.1.dw.map aQ.lf)]):=dX Tryz.func88
def RJ(l0:List Int)(r0:Int×aj)(s7646:aj)(v0:Int):Mo (Bool):=
 .iG 16003 (decide ((v0:Int)<r0.1)) (.stop)<|
 .rt [0,1,5,6,7,38] 2 (false)
def RN(r0:Int×aj):(Int×aj×(List Int))→Mo ((Int×aj×(List Int))⊕(aj×(List Int))):=fun(v0,s7646,l0)=>
 .jk Tryz.f91 1 [1,1,1,1,1,0,1,0,0,0,0] 21 (fun r_=>⟨[(0,.ptr 0 0),(1,.raw (.func (.func 92) #[] #[])),(5,.i_ r0.1),(6,.own 1),(7,.i_ v0),(38,.b_ r_)],[bI s7646,.row 3 1 (l0.map lfI)]⟩) ⟨[(0,.ptr 0 0),(1,.raw (.func (.func 92) #[] #[])),(5,.i_ r0.1),(6,.own 1),(7,.i_ v0)],[bI s7646,.row 3 1 (l0.map lfI)]⟩ (RJ l0 r0 s7646 v0) fun r1=>
 .iB (r1) (.stop)<|
 .rt [0,6] 2 (.inr (s7646,l0))
def alD(p_b0:aj):Mo ((List Int)×aj):=
 .cH [0] (gu p_b0) fun r0 _=>
 .jk Tryz.f91 1 [1,1,0,0] 11 (fun r_=>⟨[(0,.ptr 0 0),(1,.raw (.func (.func 92) #[] #[])),(5,.i_ r0.1),(18,.b_ r_)],[bI r0.2]⟩) ⟨[(0,.ptr 0 0),(1,.raw (.func (.func 92) #[] #[])),(5,.i_ r0.1)],[bI r0.2]⟩ (oZ r0) fun r1=>
 .jk Tryz.f91 1 [1,1,0,1] 1 (fun r_=>⟨[(0,.ptr 0 0),(1,.raw (.func (.func 92) #[] #[])),(5,.i_ r0.1)],[bI r_]⟩) ⟨[(0,.ptr 0 0),(1,.raw (.func (.func 92) #[] #[])),(5,.i_ r0.1),(18,.b_ r1)],[bI r0.2]⟩ (o7 r0 r1) fun r2=>
 .say [] (ok1 (by simp[lfI,lfK]:(([]:List Int).map lfI)=[]))<|
 .l1y [.mW 6 3 1,.je 1 (([]:List Int).map lfI)] Tryz.f91 1 [1,1,1,1,1,0,1,0] 0 (.exit 0) (fun(v0,s7646,l0)=>⟨[(0,.ptr 0 0),(1,.raw (.func (.func 92) #[] #[])),(5,.i_ r0.1),(6,.own 1),(7,.i_ v0)],[bI s7646,.row 3 1 (l0.map lfI)]⟩) (fun r_=>⟨[(0,.ptr 0 0),(6,.own 1)],[bI r_.1,.row 3 1 (r_.2.map lfI)]⟩) (RN r0) (0,(aj.mk r2.gy r2.fat (IntKind.wrap .i64 (r2.eu+1)) r2.dH),([]:List Int)) fun r3=>
 .ret ⟨[.mvn 1],[0],[(2,1)],2⟩ (r3.2,aj.mk r3.1.gy r3.1.fat (IntKind.wrap .i64 (r3.1.eu-1)) r3.1.dH)
def apj(p_b0:aj):Option ((List Int)×aj):=Mo.den (alD p_b0)
theorem ahH(p_b0:aj):FH (apj p_b0) 91 [.ptr 0 0,.raw (.func (.func 92) #[] #[])] [bI p_b0] (fun _=>.own 1) (fun r=>[bI r.2,.row 3 1 (r.1.map lfI)]):=dX Tryz.func91
abbrev JU(m:aj→Option (ak×aj)):Prop:=∀p_b0,FH (m p_b0) 40 [.ptr 0 0] [bI p_b0] (fun r=>.dat (ak.lf1 r.1)) (fun r=>[bI r.2])
abbrev Vo(m:aj→Option ((List ak)×aj)):Prop:=∀p_b0,FH (m p_b0) 90 [.ptr 0 0,.raw (.func (.func 40) #[] #[])] [bI p_b0] (fun r=>.lf (.rows 78 (r.1.map ak.lf))) (fun r=>[bI r.2])
structure JV where
 m1:(p_b0:aj)→Option (ak×aj)
 ok1:JU m1
 m2:(p_b0:aj)→Option ((List ak)×aj)
 ok2:Vo m2
def adh(R_:JV)(p_b0:aj):Mo (ak×aj):=
 .cH [0] (gu p_b0) fun r0 _=>
 .cH [0] (qA r0.2) fun r1 _=>
 .cH [0] (qB r1.2) fun r2 _=>
 .cH [0] (qB r2.2) fun r3 _=>
 .cH [0] (qB r3.2) fun r4 _=>
 .cH [0] (ahG r4.2) fun r5 _=>
 .cH [0] (ahC r5.2) fun r6 _=>
 .cH [0] (qA r6.2) fun r7 _=>
 .cH [0] (gu r7.2) fun r8 _=>
 .cH [0] (R_.ok2 r8.2) fun r9 _=>
 .cH [0] (ahH r9.2) fun r10 _=>
 .cH [0] (mG r10.2) fun r11 _=>
 .ret ⟨[.frz 2,.frz 3,.frz 4,.tod 0,.kill 1],[0],[],1⟩ (ak.mk r0.1 r1.1 r2.1 r3.1 r4.1 r5.1 r6.1 r7.1 r8.1 r9.1 r10.1 r11.1,r11.2)
theorem adi(R_:JV):JU fun p_b0=>Mo.den (adh R_ p_b0):=fun _=>dX Tryz.func40
def adk(R_:JV)(r0:Int×aj):Mo (Bool):=
 .iG 6002 (decide ((r0.1:Int)<0)) (.stop)<|
 .rt [0,1,5,18] 1 (decide ((64:Int)≤r0.2.eu))
def adl(R_:JV)(r0:Int×aj)(r1:Bool):Mo (aj):=
 .iB (r1) (.stop)<|
 .rt [0,1,5] 1 (r0.2)
def Y6(R_:JV)(l0:List ak)(r0:Int×aj)(s7758:aj)(v0:Int):Mo (Bool):=
 .iG 16003 (decide ((v0:Int)<r0.1)) (.stop)<|
 .rt [0,1,5,6,7,38] 2 (false)
def Y7(R_:JV)(r0:Int×aj):(Int×aj×(List ak))→Mo ((Int×aj×(List ak))⊕(aj×(List ak))):=fun(v0,s7758,l0)=>
 .jk Tryz.f90 1 [1,1,1,1,1,0,1,0,0,0,0] 21 (fun r_=>⟨[(0,.ptr 0 0),(1,.raw (.func (.func 40) #[] #[])),(5,.i_ r0.1),(6,.own 1),(7,.i_ v0),(38,.b_ r_)],[bI s7758,.row 49 78 (l0.map ak.lf)]⟩) ⟨[(0,.ptr 0 0),(1,.raw (.func (.func 40) #[] #[])),(5,.i_ r0.1),(6,.own 1),(7,.i_ v0)],[bI s7758,.row 49 78 (l0.map ak.lf)]⟩ (Y6 R_ l0 r0 s7758 v0) fun r1=>
 .iB (r1) (.stop)<|
 .rt [0,6] 2 (.inr (s7758,l0))
def ajj(R_:JV)(p_b0:aj):Mo ((List ak)×aj):=
 .cH [0] (gu p_b0) fun r0 _=>
 .jk Tryz.f90 1 [1,1,0,0] 11 (fun r_=>⟨[(0,.ptr 0 0),(1,.raw (.func (.func 40) #[] #[])),(5,.i_ r0.1),(18,.b_ r_)],[bI r0.2]⟩) ⟨[(0,.ptr 0 0),(1,.raw (.func (.func 40) #[] #[])),(5,.i_ r0.1)],[bI r0.2]⟩ (adk R_ r0) fun r1=>
 .jk Tryz.f90 1 [1,1,0,1] 1 (fun r_=>⟨[(0,.ptr 0 0),(1,.raw (.func (.func 40) #[] #[])),(5,.i_ r0.1)],[bI r_]⟩) ⟨[(0,.ptr 0 0),(1,.raw (.func (.func 40) #[] #[])),(5,.i_ r0.1),(18,.b_ r1)],[bI r0.2]⟩ (adl R_ r0 r1) fun r2=>
 .say [] (ok1 (by simp[ak.aS]:(([]:List ak).map ak.lf)=[]))<|
 .l1y [.mW 6 49 78,.je 1 (([]:List ak).map ak.lf)] Tryz.f90 1 [1,1,1,1,1,0,1,0] 0 (.exit 0) (fun(v0,s7758,l0)=>⟨[(0,.ptr 0 0),(1,.raw (.func (.func 40) #[] #[])),(5,.i_ r0.1),(6,.own 1),(7,.i_ v0)],[bI s7758,.row 49 78 (l0.map ak.lf)]⟩) (fun r_=>⟨[(0,.ptr 0 0),(6,.own 1)],[bI r_.1,.row 49 78 (r_.2.map ak.lf)]⟩) (Y7 R_ r0) (0,(aj.mk r2.gy r2.fat (IntKind.wrap .i64 (r2.eu+1)) r2.dH),([]:List ak)) fun r3=>
 .ret ⟨[.frz 1],[0],[],1⟩ (r3.2,aj.mk r3.1.gy r3.1.fat (IntKind.wrap .i64 (r3.1.eu-1)) r3.1.dH)
theorem ahI(R_:JV):Vo fun p_b0=>Mo.den (ajj R_ p_b0):=fun _=>dX Tryz.func90
def zy:Nat→JV
 |0=>{ m1:=fun p_b0=>none,ok1:=fun _ _ h=>(by cases h),m2:=fun p_b0=>none,ok2:=fun _ _ h=>(by cases h) }
 |n_+1=>{ m1:=fun p_b0=>Mo.den (adh (zy n_) p_b0),ok1:=adi (zy n_),m2:=fun p_b0=>Mo.den (ajj (zy n_) p_b0),ok2:=ahI (zy n_) }
def apk(p_b0:aj):Option (ak×aj):=(zy FU).m1 p_b0
theorem ahJ:JU apk:=(zy FU).ok1
def Y8(p_s:ByteArray)(r0:Int×aj)(r1:Int×aj)(r2:ByteArray×aj)(r3:Int×aj)(r4:ak×aj):Mo (Bool):=
 .iG 10004 (r4.2.dH) (.ret ⟨[.kill 1],[0,2,5,35],[],3⟩ (true))<|
 .ret ⟨[.kill 1],[0,2,5,35],[],3⟩ (r4.2.fat != (p_s.size:Int))
def Y9(p_s:ByteArray)(r0:Int×aj)(r1:Int×aj)(r2:ByteArray×aj)(r3:Int×aj)(r4:ak×aj)(r5:ByteArray×Int):Mo (Bool):=
 .iG 16002 (r5.2 != 0) (.stop)<|
 .rt [2,5,48] 3 (!decide ((r5.1:ByteArray)=(p_s:ByteArray)))
def alE(p_s:ByteArray):Mo (bG×Int):=
 .say [.at_ 6 1,.norm 1] ok0<|
 .cH [1] (gu (aj.mk p_s 0 0 false)) fun r0 _=>
 .cH [1] (gu r0.2) fun r1 _=>
 .cH [1] (qA r1.2) fun r2 _=>
 .cH [1] (gu r2.2) fun r3 _=>
 .cH [1] (ahJ r3.2) fun r4 _=>
 .jk Tryz.f16 0 [1,1,1,1,0,0] 15 (fun r_=>⟨[(0,.lf (.str p_s)),(2,.ptr 0 0),(5,.ptr 2 0),(35,.b_ r_)],[.box 51 (Z51),.dead,.box 51 (.agg (.i_ r0.1::.i_ r1.1::.lf (.str r2.1)::.i_ r3.1::.i_ r4.1.au::.lf (.str r4.1.fC)::.i_ r4.1.fO.au::.i_ r4.1.fO.dD::.lf (.str r4.1.fO.fText)::.lf (.rows 5 (r4.1.fO.aU.map ah.lf))::.lf (.rows 6 (r4.1.fO.aT.map ay.lf))::.i_ r4.1.aT.au::.i_ r4.1.aT.dD::.lf (.str r4.1.aT.fText)::.lf (.rows 5 (r4.1.aT.aU.map ah.lf))::.lf (.rows 6 (r4.1.aT.aT.map ay.lf))::.i_ r4.1.dG.au::.i_ r4.1.dG.dD::.lf (.str r4.1.dG.fText)::.lf (.rows 5 (r4.1.dG.aU.map ah.lf))::.lf (.rows 6 (r4.1.dG.aT.map ay.lf))::.lf (.str r4.1.dh.fName)::.lf (.rows 31 (r4.1.dh.dw.map aQ.lf))::.i_ r4.1.dh.bC.ji::.b_ r4.1.dh.bC.jl::.i_ r4.1.dh.bC.jK.au::.i_ r4.1.dh.bC.jK.dD::.lf (.str r4.1.dh.bC.jK.fText)::.lf (.rows 5 (r4.1.dh.bC.jK.aU.map ah.lf))::.lf (.rows 6 (r4.1.dh.bC.jK.aT.map ay.lf))::.b_ r4.1.dh.bC.jm::.i_ r4.1.dh.bC.jL.au::.i_ r4.1.dh.bC.jL.dD::.lf (.str r4.1.dh.bC.jL.fText)::.lf (.rows 5 (r4.1.dh.bC.jL.aU.map ah.lf))::.lf (.rows 6 (r4.1.dh.bC.jL.aT.map ay.lf))::.lf (.rows 5 (r4.1.dh.bC.jS.map ah.lf))::.i_ r4.1.dh.bC.jo::.i_ r4.1.dh.bC.jq::.lf (.rows 1 (r4.1.dh.bC.eY.map lfS))::.lf (.rows 22 (r4.1.dh.bC.dR.map bD.lf))::.b_ r4.1.dh.bC.jQ::.lf (.rows 21 (r4.1.dh.bC.fB.map aH.lf))::.b_ r4.1.dh.bC.fF::.i_ r4.1.dh.ku::.i_ r4.1.dh.jr::.lf (.str r4.1.bf.fName)::.i_ r4.1.bf.au::.lf (.rows 2 (r4.1.bf.fJ.map bn.lf))::.b_ r4.1.bf.fF::.b_ r4.1.bf.jh::.b_ r4.1.bf.iF::.i_ r4.1.bf.bF.fOp::.lf (.rows 1 (r4.1.bf.bF.cZ.map lfS))::.i_ r4.1.bf.bF.fArg.au::.i_ r4.1.bf.bF.fArg.dD::.lf (.str r4.1.bf.bF.fArg.fText)::.lf (.rows 5 (r4.1.bf.bF.fArg.aU.map ah.lf))::.lf (.rows 6 (r4.1.bf.bF.fArg.aT.map ay.lf))::.lf (.rows 5 (r4.1.bf.bF.fArgs.map ah.lf))::.i_ r4.1.bf.bF.fN::.i_ r4.1.bf.bF.fM::.i_ r4.1.bf.bF.dO.au::.lf (.rows 2 (r4.1.bf.bF.dO.cO.map bT.lf))::.i_ r4.1.bf.bF.dO.fR::.i_ r4.1.bf.bF.fExpr.fOp::.lf (.rows 1 (r4.1.bf.bF.fExpr.cZ.map lfS))::.lf (.str r4.1.bf.bF.fExpr.fName)::.lf (.rows 1 (r4.1.bf.bF.fExpr.eG.map lfS))::.i_ r4.1.bf.bF.fExpr.fArg.au::.i_ r4.1.bf.bF.fExpr.fArg.dD::.lf (.str r4.1.bf.bF.fExpr.fArg.fText)::.lf (.rows 5 (r4.1.bf.bF.fExpr.fArg.aU.map ah.lf))::.lf (.rows 6 (r4.1.bf.bF.fExpr.fArg.aT.map ay.lf))::.i_ r4.1.bf.bF.fExpr.fN::.lf (.rows 11 (r4.1.bf.bF.fExpr.bM.map aO.lf))::.lf (.rows 25 (r4.1.bf.bF.bM.map aN.lf))::.lf (.str r4.1.nN)::.i_ r4.1.eU::.lf (.rows 78 (r4.1.aY.map ak.lf))::.lf (.rows 1 (r4.1.dK.map lfI))::.b_ r4.1.iQ::[]))]⟩) ⟨[(0,.lf (.str p_s)),(2,.ptr 0 0),(4,.ptr 1 0),(5,.ptr 2 0)],[.box 51 (Z51),bI r4.2,.box 51 (.agg (.i_ r0.1::.i_ r1.1::.lf (.str r2.1)::.i_ r3.1::.i_ r4.1.au::.lf (.str r4.1.fC)::.i_ r4.1.fO.au::.i_ r4.1.fO.dD::.lf (.str r4.1.fO.fText)::.lf (.rows 5 (r4.1.fO.aU.map ah.lf))::.lf (.rows 6 (r4.1.fO.aT.map ay.lf))::.i_ r4.1.aT.au::.i_ r4.1.aT.dD::.lf (.str r4.1.aT.fText)::.lf (.rows 5 (r4.1.aT.aU.map ah.lf))::.lf (.rows 6 (r4.1.aT.aT.map ay.lf))::.i_ r4.1.dG.au::.i_ r4.1.dG.dD::.lf (.str r4.1.dG.fText)::.lf (.rows 5 (r4.1.dG.aU.map ah.lf))::.lf (.rows 6 (r4.1.dG.aT.map ay.lf))::.lf (.str r4.1.dh.fName)::.lf (.rows 31 (r4.1.dh.dw.map aQ.lf))::.i_ r4.1.dh.bC.ji::.b_ r4.1.dh.bC.jl::.i_ r4.1.dh.bC.jK.au::.i_ r4.1.dh.bC.jK.dD::.lf (.str r4.1.dh.bC.jK.fText)::.lf (.rows 5 (r4.1.dh.bC.jK.aU.map ah.lf))::.lf (.rows 6 (r4.1.dh.bC.jK.aT.map ay.lf))::.b_ r4.1.dh.bC.jm::.i_ r4.1.dh.bC.jL.au::.i_ r4.1.dh.bC.jL.dD::.lf (.str r4.1.dh.bC.jL.fText)::.lf (.rows 5 (r4.1.dh.bC.jL.aU.map ah.lf))::.lf (.rows 6 (r4.1.dh.bC.jL.aT.map ay.lf))::.lf (.rows 5 (r4.1.dh.bC.jS.map ah.lf))::.i_ r4.1.dh.bC.jo::.i_ r4.1.dh.bC.jq::.lf (.rows 1 (r4.1.dh.bC.eY.map lfS))::.lf (.rows 22 (r4.1.dh.bC.dR.map bD.lf))::.b_ r4.1.dh.bC.jQ::.lf (.rows 21 (r4.1.dh.bC.fB.map aH.lf))::.b_ r4.1.dh.bC.fF::.i_ r4.1.dh.ku::.i_ r4.1.dh.jr::.lf (.str r4.1.bf.fName)::.i_ r4.1.bf.au::.lf (.rows 2 (r4.1.bf.fJ.map bn.lf))::.b_ r4.1.bf.fF::.b_ r4.1.bf.jh::.b_ r4.1.bf.iF::.i_ r4.1.bf.bF.fOp::.lf (.rows 1 (r4.1.bf.bF.cZ.map lfS))::.i_ r4.1.bf.bF.fArg.au::.i_ r4.1.bf.bF.fArg.dD::.lf (.str r4.1.bf.bF.fArg.fText)::.lf (.rows 5 (r4.1.bf.bF.fArg.aU.map ah.lf))::.lf (.rows 6 (r4.1.bf.bF.fArg.aT.map ay.lf))::.lf (.rows 5 (r4.1.bf.bF.fArgs.map ah.lf))::.i_ r4.1.bf.bF.fN::.i_ r4.1.bf.bF.fM::.i_ r4.1.bf.bF.dO.au::.lf (.rows 2 (r4.1.bf.bF.dO.cO.map bT.lf))::.i_ r4.1.bf.bF.dO.fR::.i_ r4.1.bf.bF.fExpr.fOp::.lf (.rows 1 (r4.1.bf.bF.fExpr.cZ.map lfS))::.lf (.str r4.1.bf.bF.fExpr.fName)::.lf (.rows 1 (r4.1.bf.bF.fExpr.eG.map lfS))::.i_ r4.1.bf.bF.fExpr.fArg.au::.i_ r4.1.bf.bF.fExpr.fArg.dD::.lf (.str r4.1.bf.bF.fExpr.fArg.fText)::.lf (.rows 5 (r4.1.bf.bF.fExpr.fArg.aU.map ah.lf))::.lf (.rows 6 (r4.1.bf.bF.fExpr.fArg.aT.map ay.lf))::.i_ r4.1.bf.bF.fExpr.fN::.lf (.rows 11 (r4.1.bf.bF.fExpr.bM.map aO.lf))::.lf (.rows 25 (r4.1.bf.bF.bM.map aN.lf))::.lf (.str r4.1.nN)::.i_ r4.1.eU::.lf (.rows 78 (r4.1.aY.map ak.lf))::.lf (.rows 1 (r4.1.dK.map lfI))::.b_ r4.1.iQ::[]))]⟩ (Y8 p_s r0 r1 r2 r3 r4) fun r5=>
 .iB (r5) (.ret (aX 2) (bG.mk 0 0 ⟨#[]⟩ 0 ak.z,4))<|
 .cl (JJ (bG.mk r0.1 r1.1 r2.1 r3.1 r4.1)) fun r6 _=>
 .jk Tryz.f16 0 [1,1,1,1,1,1,0,0] 21 (fun r_=>⟨[(2,.ptr 0 0),(5,.ptr 2 0),(48,.b_ r_)],[.box 51 (Z51),.dead,.box 51 (.agg (.i_ r0.1::.i_ r1.1::.lf (.str r2.1)::.i_ r3.1::.i_ r4.1.au::.lf (.str r4.1.fC)::.i_ r4.1.fO.au::.i_ r4.1.fO.dD::.lf (.str r4.1.fO.fText)::.lf (.rows 5 (r4.1.fO.aU.map ah.lf))::.lf (.rows 6 (r4.1.fO.aT.map ay.lf))::.i_ r4.1.aT.au::.i_ r4.1.aT.dD::.lf (.str r4.1.aT.fText)::.lf (.rows 5 (r4.1.aT.aU.map ah.lf))::.lf (.rows 6 (r4.1.aT.aT.map ay.lf))::.i_ r4.1.dG.au::.i_ r4.1.dG.dD::.lf (.str r4.1.dG.fText)::.lf (.rows 5 (r4.1.dG.aU.map ah.lf))::.lf (.rows 6 (r4.1.dG.aT.map ay.lf))::.lf (.str r4.1.dh.fName)::.lf (.rows 31 (r4.1.dh.dw.map aQ.lf))::.i_ r4.1.dh.bC.ji::.b_ r4.1.dh.bC.jl::.i_ r4.1.dh.bC.jK.au::.i_ r4.1.dh.bC.jK.dD::.lf (.str r4.1.dh.bC.jK.fText)::.lf (.rows 5 (r4.1.dh.bC.jK.aU.map ah.lf))::.lf (.rows 6 (r4.1.dh.bC.jK.aT.map ay.lf))::.b_ r4.1.dh.bC.jm::.i_ r4.1.dh.bC.jL.au::.i_ r4.1.dh.bC.jL.dD::.lf (.str r4.1.dh.bC.jL.fText)::.lf (.rows 5 (r4.1.dh.bC.jL.aU.map ah.lf))::.lf (.rows 6 (r4.1.dh.bC.jL.aT.map ay.lf))::.lf (.rows 5 (r4.1.dh.bC.jS.map ah.lf))::.i_ r4.1.dh.bC.jo::.i_ r4.1.dh.bC.jq::.lf (.rows 1 (r4.1.dh.bC.eY.map lfS))::.lf (.rows 22 (r4.1.dh.bC.dR.map bD.lf))::.b_ r4.1.dh.bC.jQ::.lf (.rows 21 (r4.1.dh.bC.fB.map aH.lf))::.b_ r4.1.dh.bC.fF::.i_ r4.1.dh.ku::.i_ r4.1.dh.jr::.lf (.str r4.1.bf.fName)::.i_ r4.1.bf.au::.lf (.rows 2 (r4.1.bf.fJ.map bn.lf))::.b_ r4.1.bf.fF::.b_ r4.1.bf.jh::.b_ r4.1.bf.iF::.i_ r4.1.bf.bF.fOp::.lf (.rows 1 (r4.1.bf.bF.cZ.map lfS))::.i_ r4.1.bf.bF.fArg.au::.i_ r4.1.bf.bF.fArg.dD::.lf (.str r4.1.bf.bF.fArg.fText)::.lf (.rows 5 (r4.1.bf.bF.fArg.aU.map ah.lf))::.lf (.rows 6 (r4.1.bf.bF.fArg.aT.map ay.lf))::.lf (.rows 5 (r4.1.bf.bF.fArgs.map ah.lf))::.i_ r4.1.bf.bF.fN::.i_ r4.1.bf.bF.fM::.i_ r4.1.bf.bF.dO.au::.lf (.rows 2 (r4.1.bf.bF.dO.cO.map bT.lf))::.i_ r4.1.bf.bF.dO.fR::.i_ r4.1.bf.bF.fExpr.fOp::.lf (.rows 1 (r4.1.bf.bF.fExpr.cZ.map lfS))::.lf (.str r4.1.bf.bF.fExpr.fName)::.lf (.rows 1 (r4.1.bf.bF.fExpr.eG.map lfS))::.i_ r4.1.bf.bF.fExpr.fArg.au::.i_ r4.1.bf.bF.fExpr.fArg.dD::.lf (.str r4.1.bf.bF.fExpr.fArg.fText)::.lf (.rows 5 (r4.1.bf.bF.fExpr.fArg.aU.map ah.lf))::.lf (.rows 6 (r4.1.bf.bF.fExpr.fArg.aT.map ay.lf))::.i_ r4.1.bf.bF.fExpr.fN::.lf (.rows 11 (r4.1.bf.bF.fExpr.bM.map aO.lf))::.lf (.rows 25 (r4.1.bf.bF.bM.map aN.lf))::.lf (.str r4.1.nN)::.i_ r4.1.eU::.lf (.rows 78 (r4.1.aY.map ak.lf))::.lf (.rows 1 (r4.1.dK.map lfI))::.b_ r4.1.iQ::[]))]⟩) ⟨[(0,.lf (.str p_s)),(2,.ptr 0 0),(5,.ptr 2 0),(6,.lf (.str r6.1)),(7,.i_ r6.2)],[.box 51 (Z51),.dead,.box 51 (.agg (.i_ r0.1::.i_ r1.1::.lf (.str r2.1)::.i_ r3.1::.i_ r4.1.au::.lf (.str r4.1.fC)::.i_ r4.1.fO.au::.i_ r4.1.fO.dD::.lf (.str r4.1.fO.fText)::.lf (.rows 5 (r4.1.fO.aU.map ah.lf))::.lf (.rows 6 (r4.1.fO.aT.map ay.lf))::.i_ r4.1.aT.au::.i_ r4.1.aT.dD::.lf (.str r4.1.aT.fText)::.lf (.rows 5 (r4.1.aT.aU.map ah.lf))::.lf (.rows 6 (r4.1.aT.aT.map ay.lf))::.i_ r4.1.dG.au::.i_ r4.1.dG.dD::.lf (.str r4.1.dG.fText)::.lf (.rows 5 (r4.1.dG.aU.map ah.lf))::.lf (.rows 6 (r4.1.dG.aT.map ay.lf))::.lf (.str r4.1.dh.fName)::.lf (.rows 31 (r4.1.dh.dw.map aQ.lf))::.i_ r4.1.dh.bC.ji::.b_ r4.1.dh.bC.jl::.i_ r4.1.dh.bC.jK.au::.i_ r4.1.dh.bC.jK.dD::.lf (.str r4.1.dh.bC.jK.fText)::.lf (.rows 5 (r4.1.dh.bC.jK.aU.map ah.lf))::.lf (.rows 6 (r4.1.dh.bC.jK.aT.map ay.lf))::.b_ r4.1.dh.bC.jm::.i_ r4.1.dh.bC.jL.au::.i_ r4.1.dh.bC.jL.dD::.lf (.str r4.1.dh.bC.jL.fText)::.lf (.rows 5 (r4.1.dh.bC.jL.aU.map ah.lf))::.lf (.rows 6 (r4.1.dh.bC.jL.aT.map ay.lf))::.lf (.rows 5 (r4.1.dh.bC.jS.map ah.lf))::.i_ r4.1.dh.bC.jo::.i_ r4.1.dh.bC.jq::.lf (.rows 1 (r4.1.dh.bC.eY.map lfS))::.lf (.rows 22 (r4.1.dh.bC.dR.map bD.lf))::.b_ r4.1.dh.bC.jQ::.lf (.rows 21 (r4.1.dh.bC.fB.map aH.lf))::.b_ r4.1.dh.bC.fF::.i_ r4.1.dh.ku::.i_ r4.1.dh.jr::.lf (.str r4.1.bf.fName)::.i_ r4.1.bf.au::.lf (.rows 2 (r4.1.bf.fJ.map bn.lf))::.b_ r4.1.bf.fF::.b_ r4.1.bf.jh::.b_ r4.1.bf.iF::.i_ r4.1.bf.bF.fOp::.lf (.rows 1 (r4.1.bf.bF.cZ.map lfS))::.i_ r4.1.bf.bF.fArg.au::.i_ r4.1.bf.bF.fArg.dD::.lf (.str r4.1.bf.bF.fArg.fText)::.lf (.rows 5 (r4.1.bf.bF.fArg.aU.map ah.lf))::.lf (.rows 6 (r4.1.bf.bF.fArg.aT.map ay.lf))::.lf (.rows 5 (r4.1.bf.bF.fArgs.map ah.lf))::.i_ r4.1.bf.bF.fN::.i_ r4.1.bf.bF.fM::.i_ r4.1.bf.bF.dO.au::.lf (.rows 2 (r4.1.bf.bF.dO.cO.map bT.lf))::.i_ r4.1.bf.bF.dO.fR::.i_ r4.1.bf.bF.fExpr.fOp::.lf (.rows 1 (r4.1.bf.bF.fExpr.cZ.map lfS))::.lf (.str r4.1.bf.bF.fExpr.fName)::.lf (.rows 1 (r4.1.bf.bF.fExpr.eG.map lfS))::.i_ r4.1.bf.bF.fExpr.fArg.au::.i_ r4.1.bf.bF.fExpr.fArg.dD::.lf (.str r4.1.bf.bF.fExpr.fArg.fText)::.lf (.rows 5 (r4.1.bf.bF.fExpr.fArg.aU.map ah.lf))::.lf (.rows 6 (r4.1.bf.bF.fExpr.fArg.aT.map ay.lf))::.i_ r4.1.bf.bF.fExpr.fN::.lf (.rows 11 (r4.1.bf.bF.fExpr.bM.map aO.lf))::.lf (.rows 25 (r4.1.bf.bF.bM.map aN.lf))::.lf (.str r4.1.nN)::.i_ r4.1.eU::.lf (.rows 78 (r4.1.aY.map ak.lf))::.lf (.rows 1 (r4.1.dK.map lfI))::.b_ r4.1.iQ::[]))]⟩ (Y9 p_s r0 r1 r2 r3 r4 r6) fun r7=>
 .iB (r7) (.stop)<|
 .ret (aX 2) (bG.mk r0.1 r1.1 r2.1 r3.1 r4.1,0)
def apl(p_s:ByteArray):Option (bG×Int):=Mo.den (alE p_s)
theorem Vp(p_s:ByteArray):FV (apl p_s) 16 [.lf (.str p_s)] (fun r=>.tup [.dat (bG.lf1 r.1),.i_ r.2]):=bW Tryz.func16
def NJ(p_n:Int):Mo (Int):=
 .iB (decide ((p_n:Int)<0)) (.rt [3] 0 (dI .xor .u64 (IntKind.max .u64) (Bg .u64 (IntKind.wrap .u64 p_n) 1)))<|
 .rt [3] 0 (Bg .u64 (IntKind.wrap .u64 p_n) 1)
def NK(v0:Int)(v1:ByteArray)(v2:Int):Mo (Bool):=
 .aV 14002 (decide ((v2:Int)<10)) [3,4,5,18] 0 (decide ((128:Int)≤v0))
def GH :(Int×ByteArray×Int)→Mo ((Int×ByteArray×Int)⊕(Int×ByteArray)):=fun(v0,v1,v2)=>
 .jk Tryz.f139 0 [1,1,1,1,0,1,0,0,0,0] 19 (fun r_=>⟨[(3,.lf (.int .u64 v0)),(4,.lf (.str v1)),(5,.i_ v2),(18,.b_ r_)],[]⟩) ⟨[(3,.lf (.int .u64 v0)),(4,.lf (.str v1)),(5,.i_ v2)],[]⟩ (NK v0 v1 v2) fun r0=>
 .iB (r0) (.say [.nums [dI .or .u8 (IntKind.wrap .u8 (Int.tmod v0 128)) 128]] (okc (by decide:(128:Int)≠0) (ok1 (by simp[lfI,lfK]:[((lfK .u8) (dI .or .u8 (IntKind.wrap .u8 (Int.tmod v0 128)) 128))]=[dI .or .u8 (IntKind.wrap .u8 (Int.tmod v0 128)) 128].map fun n=>[Lf.int .u8 n])))<|
 .grd (v1.size+(strOfNums [dI .or .u8 (IntKind.wrap .u8 (Int.tmod v0 128)) 128]).size≤9223372036854775807) fun h0=>
 .say [] (okc h0 (ok1 (by decide:(128:Int)≠0)))<|
 .rt [3,4,5] 0 (.inl (IntKind.wrap .u64 (Int.tdiv v0 128),v1++(strOfNums [dI .or .u8 (IntKind.wrap .u8 (Int.tmod v0 128)) 128]),IntKind.wrap .i64 (v2+1))))<|
 .rt [3,4] 0 (.inr (v0,v1))
def ajk(p_n:Int):Mo (ByteArray):=
 .say [] (ok1 (by decide:(0:Int)≤1))<|
 .jk Tryz.f139 0 [1,1,0,1] 1 (fun r_=>⟨[(3,.lf (.int .u64 r_))],[]⟩) ⟨[(3,.lf (.int .u64 (Bg .u64 (IntKind.wrap .u64 p_n) 1))),(10,.lf (.bool (decide ((p_n:Int)<0))))],[]⟩ (NJ p_n) fun r0=>
 .l1 Tryz.f139 0 [1,1,1,1,0,1,0] 0 (.exit 0) (fun(v0,v1,v2)=>⟨[(3,.lf (.int .u64 v0)),(4,.lf (.str v1)),(5,.i_ v2)],[]⟩) (fun r_=>⟨[(3,.lf (.int .u64 r_.1)),(4,.lf (.str r_.2))],[]⟩) (GH ) (r0,⟨#[]⟩,0) fun r1=>
 .say [.nums [IntKind.wrap .u8 r1.1]] (ok1 (by simp[lfI,lfK]:[((lfK .u8) (IntKind.wrap .u8 r1.1))]=[IntKind.wrap .u8 r1.1].map fun n=>[Lf.int .u8 n]))<|
 .grd (r1.2.size+(strOfNums [IntKind.wrap .u8 r1.1]).size≤9223372036854775807) fun h0=>
 .say [] (ok1 h0)<|
 .ret (aX 1) (r1.2++(strOfNums [IntKind.wrap .u8 r1.1]))
def Q49(p_n:Int):Option (ByteArray):=Mo.den (ajk p_n)
theorem zA(p_n:Int):FV (Q49 p_n) 139 [.i_ p_n] (fun r=>.lf (.str r)):=bW Tryz.func139
def anN(p_n:Int)(p_b0:aI):Mo (aI):=
 .say [.order [(true,0),(true,1),(true,2),(true,3),(true,4),(false,5),(true,6),(true,7),(true,8),(false,9)] (some 9) []] ok0<|
 .cl (zA p_n) fun r0 _=>
 .grd (p_b0.fS.size+r0.size≤9223372036854775807) fun h0=>
 .say [] (ok1 h0)<|
 .rt [] 1 (aI.mk (p_b0.fS++r0) p_b0.wI p_b0.qV)
def Q6(p_n:Int)(p_b0:aI):Option (aI):=Mo.den (anN p_n p_b0)
theorem gY(p_n:Int)(p_b0:aI):FH (Q6 p_n p_b0) 83 [.ptr 0 0,.i_ p_n] [dQ p_b0] (fun _=>.tup []) (fun r=>[dQ r]):=dX Tryz.func83
end
end Go.Proofs.YtflpefkohpjjpaaGreatDoor
set_option linter.unusedSimpArgs false
set_option linter.unusedVariables false
namespace Go.Proofs.YtflpefkohpjjpaaGreatDoor
open Go.RowKit
set_option maxRecDepth 20000
set_option maxHeartbeats 4000000
noncomputable section
def ajl(p_s:ByteArray)(p_b0:aI):Mo (aI):=
 .cH [0] (gY (p_s.size:Int) p_b0) fun r0 _=>
 .grd (r0.fS.size+p_s.size≤9223372036854775807) fun h0=>
 .say [] (ok1 h0)<|
 .rt [] 1 (aI.mk (r0.fS++p_s) r0.wI r0.qV)
def Q50(p_s:ByteArray)(p_b0:aI):Option (aI):=Mo.den (ajl p_s p_b0)
theorem oI(p_s:ByteArray)(p_b0:aI):FH (Q50 p_s p_b0) 84 [.ptr 0 0,.lf (.str p_s)] [dQ p_b0] (fun _=>.tup []) (fun r=>[dQ r]):=dX Tryz.func84
def ajm(p_v:ah):Mo (Bool):=
 .sf Tryz.f71 0 [1,0] 0 8 1 [(1,.ptr 0 0),(2,.b_ false)] [aZ p_v] 10 (wM p_v) fun r0=>
 .sb Tryz.f71 0 [1,0] 8 5 1 [(1,.ptr 0 0),(2,.b_ false)] [aZ p_v] 10 15 r0 (wO p_v r0) fun r1=>
 .sb Tryz.f71 0 [1,0] 13 6 1 [(1,.ptr 0 0),(2,.b_ false)] [aZ p_v] 15 21 r1 (rJ p_v r1) fun r2=>
 .sk Tryz.f71 0 [1,0] 19 6 1 (fun r_=>⟨[(2,.b_ false),(27,.b_ r_)],[.dead]⟩) ⟨[(1,.ptr 0 0),(2,.b_ false),(21,.b_ r2)],[aZ p_v]⟩ (rM p_v r2) fun r3=>
 .sk Tryz.f71 0 [1,0] 25 1 1 (fun r_=>⟨[(2,.b_ r3)],[.dead]⟩) ⟨[(2,.b_ false),(27,.b_ r3)],[.dead]⟩ (fU r3) fun r4=>
 .ret (aX 1) (r3)
def Q94(p_v:ah):Option (Bool):=Mo.den (ajm p_v)
theorem vH(p_v:ah):FV (Q94 p_v) 71 [.dat (ah.lf1 p_v)] .b_:=bW Tryz.func71
def wZ(p_v:ah):(Int×(List ah))→Mo ((Int×(List ah))⊕((List ah))):=fun(v0,l0)=>
 .nu p_v.aU ah.lf<|
 .iB (decide ((v0:Int)<(p_v.aU.length:Int))) (.gx ah.aS p_v.aU v0 fun x0 _=>
 .say [.rows ((l0++[x0]).map ah.lf)] (ok1 (ap_ ah.aS l0 x0))<|
 .grd ((l0.length+[x0].length)*80≤140737488355328) fun h0=>
 .say [] (ok1 (cp_ ah.lf h0))<|
 .ret ⟨[],[1,3,4],[(3,1)],2⟩ (.inl (IntKind.wrap .i64 (v0+1),l0++[x0])))<|
 .rt [1,3] 2 (.inr (l0))
def RP(p_v:ah)(v0:Int)(l0:List ah):Option (((List ah))):=bP (fun v_=>(wZ p_v v_).den) FU (v0,l0)
def NM(p_v:ah):Mo (((List ah))):=
 .iB (p_v.au==6) (.say [] (ok1 (by simp[ah.aS]:(([]:List ah).map ah.lf)=[]))<|
 .l1m [.je 1 (([]:List ah).map ah.lf)] Tryz.f312 0 [1,1,0,1,0,1,0] 0 (.exit 0) (fun(v0,l0)=>⟨[(1,.ptr 0 0),(3,.own 1),(4,.i_ v0)],[aZ p_v,.row 25 5 (l0.map ah.lf)]⟩) (fun r_=>⟨[(1,.ptr 0 0),(3,.own 1)],[aZ p_v,.row 25 5 (r_.map ah.lf)]⟩) (RP p_v 0 ([]:List ah)) (wZ p_v) (0,([]:List ah)) fun r0=>
 .rt [1,3] 2 (r0))<|
 .say [] (ok1 (by simp[ah.aS]:(([]:List ah).map ah.lf)=[]))<|
 .ret ⟨[.je 1 (([]:List ah).map ah.lf)],[1,3],[],2⟩ (([]:List ah))
def tX(p_v:ah):(Int×(List ah))→Mo ((Int×(List ah))⊕((List ah))):=fun(v0,l0)=>
 .nu p_v.aT ay.lf<|
 .iB (decide ((v0:Int)<(p_v.aT.length:Int))) (.gx ay.aS p_v.aT v0 fun x0 _=>
 .say [.rows ((l0++[x0.fValue]).map ah.lf)] (ok1 (ap_ ah.aS l0 x0.fValue))<|
 .grd ((l0.length+[x0.fValue].length)*80≤140737488355328) fun h0=>
 .say [] (ok1 (cp_ ah.lf h0))<|
 .ret ⟨[],[1,3,5],[(3,1)],2⟩ (.inl (IntKind.wrap .i64 (v0+1),l0++[x0.fValue])))<|
 .ret ⟨[.kill 0],[3],[],2⟩ (.inr (l0))
def JW(p_v:ah)(v0:Int)(l0:List ah):Option (((List ah))):=bP (fun v_=>(tX p_v v_).den) FU (v0,l0)
def GK(p_v:ah)(r0:((List ah))):Mo (((List ah))):=
 .iB (p_v.au==5) (.l1m [] Tryz.f312 0 [1,1,1,0,1,0,1,0] 0 (.exit 2) (fun(v0,l0)=>⟨[(1,.ptr 0 0),(3,.own 1),(5,.i_ v0)],[aZ p_v,.row 25 5 (l0.map ah.lf)]⟩) (fun r_=>⟨[(3,.own 1)],[.dead,.row 25 5 (r_.map ah.lf)]⟩) (JW p_v 0 r0) (tX p_v) (0,r0) fun r1=>
 .rt [3] 2 (r1))<|
 .ret ⟨[.kill 0],[3],[],2⟩ (r0)
def ajn(p_v:ah):Mo (List ah):=
 .jy [.mW 3 25 5] Tryz.f312 0 [1,1,0,1] 1 (.normal) (fun r_=>⟨[(1,.ptr 0 0),(3,.own 1)],[aZ p_v,.row 25 5 (r_.map ah.lf)]⟩) ⟨[(1,.ptr 0 0),(3,.own 1),(8,.lf (.bool (p_v.au==6)))],[aZ p_v,.row 25 5 []]⟩ (NM p_v) fun r0=>
 .jk Tryz.f312 0 [1,1,1,0,1] 1 (fun r_=>⟨[(3,.own 1)],[.dead,.row 25 5 (r_.map ah.lf)]⟩) ⟨[(1,.ptr 0 0),(3,.own 1),(26,.lf (.bool (p_v.au==5)))],[aZ p_v,.row 25 5 (r0.map ah.lf)]⟩ (GK p_v r0) fun r1=>
 .say [.at_ 0 0,.frz 1] ok0<|
 .ret (aX 1) (r1)
def Q20(p_v:ah):Option (List ah):=Mo.den (ajn p_v)
theorem adn(p_v:ah):FV (Q20 p_v) 312 [.dat (ah.lf1 p_v)] (fun r=>.lf (.rows 5 (r.map ah.lf))):=bW Tryz.func312
abbrev JX(m:ah→Int→Option (Int)):Prop:=∀p_v p_most,FV (m p_v p_most) 259 [.dat (ah.lf1 p_v),.i_ p_most] .i_
structure Za where
 m1:(p_v:ah)→(p_most:Int)→Option (Int)
 ok1:JX m1
def CQ(R_:Za)(p_most:Int)(r0:List ah):Mo (Bool):=
 .iG 6002 (decide ((p_most:Int)<2)) (.rt [1,5,16] 1 (true))<|
 .nu r0 ah.lf<|
 .rt [1,5,16] 1 ((r0.length:Int)==0)
def o8(R_:Za)(p_most:Int)(r0:List ah):(Int×Int)→Mo ((Int×Int)⊕(Int)):=fun(v0,v1)=>
 .nu r0 ah.lf<|
 .iB (decide ((v1:Int)<(r0.length:Int))) (.gx ah.aS r0 v1 fun x0 _=>
 .cl (R_.ok1 x0 (IntKind.wrap .i64 (p_most-1))) fun r1 _=>
 .rt [1,5,6,7] 1 (.inl ((if r1 > v0 then r1 else v0),IntKind.wrap .i64 (v1+1))))<|
 .rt [6] 1 (.inr (v0))
def ado(R_:Za)(p_most:Int)(r0:List ah)(v0:Int)(v1:Int):Option (Int):=bP (fun v_=>(o8 R_ p_most r0 v_).den) FU (v0,v1)
def Vq(R_:Za)(p_v:ah)(p_most:Int):Mo (Int):=
 .cl (adn p_v) fun r0 _=>
 .jy [.kill 0] Tryz.f259 0 [1,1,0,0] 11 (.normal) (fun r_=>⟨[(1,.i_ p_most),(5,.lf (.rows 5 (r0.map ah.lf))),(16,.b_ r_)],[.dead]⟩) ⟨[(1,.i_ p_most),(5,.lf (.rows 5 (r0.map ah.lf)))],[.dead]⟩ (CQ R_ p_most r0) fun r1=>
 .iB (r1) (.ret (aX 1) (1))<|
 .l1m [] Tryz.f259 0 [1,1,1,1,0,1,0] 0 (.exit 0) (fun(v0,v1)=>⟨[(1,.i_ p_most),(5,.lf (.rows 5 (r0.map ah.lf))),(6,.i_ v0),(7,.i_ v1)],[.dead]⟩) (fun r_=>⟨[(6,.i_ r_)],[.dead]⟩) (ado R_ p_most r0 0 0) (o8 R_ p_most r0) (0,0) fun r2=>
 .ret (aX 1) (IntKind.wrap .i64 (r2+1))
theorem ahK(R_:Za):JX fun p_v p_most=>Mo.den (Vq R_ p_v p_most):=fun _ _=>bW Tryz.func259
def qC:Nat→Za
 |0=>{ m1:=fun p_v p_most=>none,ok1:=fun _ _ _ h=>(by cases h) }
 |n_+1=>{ m1:=fun p_v p_most=>Mo.den (Vq (qC n_) p_v p_most),ok1:=ahK (qC n_) }
def Q33(p_v:ah)(p_most:Int):Option (Int):=(qC FU).m1 p_v p_most
theorem alF:JX Q33:=(qC FU).ok1
def RQ(p_v:ah):Mo (Int):=
 .cl (alF p_v 17) fun r0 _=>
 .ret (aX 1) (r0)
def adp(p_v:ah):Option (Int):=Mo.den (RQ p_v)
theorem ahL(p_v:ah):FV (adp p_v) 189 [.dat (ah.lf1 p_v)] .i_:=bW Tryz.func189
abbrev JY(m:ah→Int→Option (Int)):Prop:=∀p_v p_most,FV (m p_v p_most) 260 [.dat (ah.lf1 p_v),.i_ p_most] .i_
structure Zb where
 m1:(p_v:ah)→(p_most:Int)→Option (Int)
 ok1:JY m1
def rP(R_:Zb)(p_most:Int)(r0:List ah)(v0:Int)(v1:Int):Mo (Bool):=
 .nu r0 ah.lf<|
 .aV 10004 (decide ((v1:Int)<(r0.length:Int))) [1,5,6,7,18] 1 (decide ((v0:Int)<p_most))
def o9(R_:Zb)(p_most:Int)(r0:List ah):(Int×Int)→Mo ((Int×Int)⊕(Int)):=fun(v0,v1)=>
 .jk Tryz.f260 0 [1,1,1,0,1,0,0,0,0] 15 (fun r_=>⟨[(1,.i_ p_most),(5,.i_ v0),(6,.lf (.rows 5 (r0.map ah.lf))),(7,.i_ v1),(18,.b_ r_)],[.dead]⟩) ⟨[(1,.i_ p_most),(5,.i_ v0),(6,.lf (.rows 5 (r0.map ah.lf))),(7,.i_ v1)],[.dead]⟩ (rP R_ p_most r0 v0 v1) fun r1=>
 .iB (r1) (.gx ah.aS r0 v1 fun x0 _=>
 .cl (R_.ok1 x0 (IntKind.wrap .i64 (p_most-v0))) fun r2 _=>
 .rt [1,5,6,7] 1 (.inl (IntKind.wrap .i64 (v0+r2),IntKind.wrap .i64 (v1+1))))<|
 .rt [5] 1 (.inr (v0))
def adq(R_:Zb)(p_most:Int)(r0:List ah)(v0:Int)(v1:Int):Option (Int):=bP (fun v_=>(o9 R_ p_most r0 v_).den) FU (v0,v1)
def Vr(R_:Zb)(p_v:ah)(p_most:Int):Mo (Int):=
 .cl (adn p_v) fun r0 _=>
 .l1m [.kill 0] Tryz.f260 0 [1,1,1,0,1,0] 0 (.exit 0) (fun(v0,v1)=>⟨[(1,.i_ p_most),(5,.i_ v0),(6,.lf (.rows 5 (r0.map ah.lf))),(7,.i_ v1)],[.dead]⟩) (fun r_=>⟨[(5,.i_ r_)],[.dead]⟩) (adq R_ p_most r0 1 0) (o9 R_ p_most r0) (1,0) fun r1=>
 .ret (aX 1) (r1)
theorem ahM(R_:Zb):JY fun p_v p_most=>Mo.den (Vr R_ p_v p_most):=fun _ _=>bW Tryz.func260
def qE:Nat→Zb
 |0=>{ m1:=fun p_v p_most=>none,ok1:=fun _ _ _ h=>(by cases h) }
 |n_+1=>{ m1:=fun p_v p_most=>Mo.den (Vr (qE n_) p_v p_most),ok1:=ahM (qE n_) }
def Q29(p_v:ah)(p_most:Int):Option (Int):=(qE FU).m1 p_v p_most
theorem alG:JY Q29:=(qE FU).ok1
def RS(p_v:ah):Mo (Int):=
 .cl (alG p_v 1025) fun r0 _=>
 .ret (aX 1) (r0)
def adr(p_v:ah):Option (Int):=Mo.den (RS p_v)
theorem ahN(p_v:ah):FV (adr p_v) 190 [.dat (ah.lf1 p_v)] .i_:=bW Tryz.func190
def CS(p_i:Int)(p_n:Int)(p_s:ByteArray)(v0:Int):Mo (Bool):=
 .ask (iw p_s (IntKind.wrap .i64 (p_i+v0))) fun b0 h0=>
 .say [.byt b0] (ok1 (dL h0))<|
 .iG 14006 (decide (((b0.toNat:Int):Int)<128)) (.rt [0,1,2,7,32] 0 (true))<|
 .ask (iw p_s (IntKind.wrap .i64 (p_i+v0))) fun b1 h1=>
 .say [.byt b1] (ok1 (dL h1))<|
 .rt [0,1,2,7,32] 0 (decide ((191:Int)<(b1.toNat:Int)))
def pq(p_i:Int)(p_n:Int)(p_s:ByteArray):(Int)→Mo ((Int)⊕(Unit⊕Unit)):=fun(v0)=>
 .iB (decide ((v0:Int)<p_n)) (.jk Tryz.f313 0 [1,1,0,1,0,0,1,0,0,0] 19 (fun r_=>⟨[(0,.lf (.str p_s)),(1,.i_ p_i),(2,.i_ p_n),(7,.i_ v0),(32,.b_ r_)],[]⟩) ⟨[(0,.lf (.str p_s)),(1,.i_ p_i),(2,.i_ p_n),(7,.i_ v0)],[]⟩ (CS p_i p_n p_s v0) fun r0=>
 .iB (r0) (.rt [6] 0 (.inr (.inl ())))<|
 .rt [0,1,2,7] 0 (.inl (IntKind.wrap .i64 (v0+1))))<|
 .rt [] 0 (.inr (.inr (())))
def ads(p_i:Int)(p_n:Int)(p_s:ByteArray)(v0:Int):Option (Unit⊕Unit):=bP (fun v_=>(pq p_i p_n p_s v_).den) FU (v0)
def adt(p_s:ByteArray)(p_i:Int)(p_n:Int):Mo (Bool):=
 .iB (decide (((p_s.size:Int):Int)<(IntKind.wrap .i64 (p_i+p_n)))) (.ret (aX 1) (false))<|
 .l2m [] Tryz.f313 0 [1,1,0,1,0] 0 (fun(v0)=>⟨[(0,.lf (.str p_s)),(1,.i_ p_i),(2,.i_ p_n),(7,.i_ v0)],[]⟩) .ret (fun _=>⟨[(6,.b_ false)],[]⟩) (.exit 0) (fun _=>⟨[],[]⟩) (ads p_i p_n p_s 0) (pq p_i p_n p_s) (0) (fun o0=>
 .ret (aX 1) (false)) fun o1=>
 .ret (aX 1) (true)
def Q40(p_s:ByteArray)(p_i:Int)(p_n:Int):Option (Bool):=Mo.den (adt p_s p_i p_n)
theorem alH(p_s:ByteArray)(p_i:Int)(p_n:Int):FV (Q40 p_s p_i p_n) 313 [.lf (.str p_s),.i_ p_i,.i_ p_n] .b_:=bW Tryz.func313
def AO(b0:UInt8)(p_s:ByteArray)(v0:Int):Mo (Bool):=
 .aV 16002 (decide ((194:Int)≤(b0.toNat:Int))) [0,3,4,16] 0 (decide (((b0.toNat:Int):Int)≤223))
def AP(b0:UInt8)(p_s:ByteArray)(v0:Int):Mo (Bool):=
 .aV 20002 (decide ((224:Int)≤(b0.toNat:Int))) [0,3,4,23] 0 (decide (((b0.toNat:Int):Int)≤239))
def xg(b0:UInt8)(p_s:ByteArray)(v0:Int):Mo (Bool):=
 .aV 24002 (decide ((240:Int)≤(b0.toNat:Int))) [0,3,4,30] 0 (decide (((b0.toNat:Int):Int)≤244))
def rQ(b0:UInt8)(p_s:ByteArray)(v0:Int):Mo ((Int)⊕Unit):=
 .iB (decide (((b0.toNat:Int):Int)<128)) (.rt [0,3,4,5] 0 (.inl (0)))<|
 .jk Tryz.f261 0 [1,0,1,0,0,1,0,1,1,0,0,1,1,0] 21 (fun r_=>⟨[(0,.lf (.str p_s)),(3,.i_ v0),(4,.lf (.int .u8 (b0.toNat:Int))),(16,.b_ r_)],[]⟩) ⟨[(0,.lf (.str p_s)),(3,.i_ v0),(4,.lf (.int .u8 (b0.toNat:Int)))],[]⟩ (AO b0 p_s v0) fun r0=>
 .iB (r0) (.rt [0,3,4,5] 0 (.inl (1)))<|
 .jk Tryz.f261 0 [1,0,1,0,0,1,0,1,1,0,0,1,1,1,1,0] 25 (fun r_=>⟨[(0,.lf (.str p_s)),(3,.i_ v0),(4,.lf (.int .u8 (b0.toNat:Int))),(23,.b_ r_)],[]⟩) ⟨[(0,.lf (.str p_s)),(3,.i_ v0),(4,.lf (.int .u8 (b0.toNat:Int)))],[]⟩ (AP b0 p_s v0) fun r1=>
 .iB (r1) (.rt [0,3,4,5] 0 (.inl (2)))<|
 .jk Tryz.f261 0 [1,0,1,0,0,1,0,1,1,0,0,1,1,1,1,1,1,0] 29 (fun r_=>⟨[(0,.lf (.str p_s)),(3,.i_ v0),(4,.lf (.int .u8 (b0.toNat:Int))),(30,.b_ r_)],[]⟩) ⟨[(0,.lf (.str p_s)),(3,.i_ v0),(4,.lf (.int .u8 (b0.toNat:Int)))],[]⟩ (xg b0 p_s v0) fun r2=>
 .iB (r2) (.rt [0,3,4,5] 0 (.inl (3)))<|
 .rt [2] 0 (.inr (()))
def zB(b0:UInt8)(p_s:ByteArray)(v0:Int):Option ((Int)⊕Unit):=Mo.den (rQ b0 p_s v0)
def xk(r_:(Int)⊕Unit):Exit:=match r_ with
 |.inl o_=>.normal
 |.inr (o_)=>.ret
def xq(b0:UInt8)(p_s:ByteArray)(v0:Int)(r_:(Int)⊕Unit):St:=match r_ with
 |.inl o_=>⟨[(0,.lf (.str p_s)),(3,.i_ v0),(4,.lf (.int .u8 (b0.toNat:Int))),(5,.i_ o_)],[]⟩
 |.inr (o_)=>⟨[(2,.b_ false)],[]⟩
theorem NP{b0:UInt8}{p_s:ByteArray}{v0:Int}{r_:(Int)⊕Unit}(h:zB b0 p_s v0=some r_):Jo Tryz.f261 0 [1,0,1,0,0,1,0,1,1,0] (xk r_) (xq b0 p_s v0 r_) ⟨[(0,.lf (.str p_s)),(3,.i_ v0),(4,.lf (.int .u8 (b0.toNat:Int))),(5,.i_ 0)],[]⟩:=
 BO kP (rQ b0 p_s v0) xk (xq b0 p_s v0) (by kernel_rfl) h
def xu(b0:UInt8)(o0:Int)(p_s:ByteArray)(v0:Int):Mo (Bool):=
 .iG 32002 ((b0.toNat:Int)==224) (.ask (iw p_s (IntKind.wrap .i64 (v0+1))) fun b1 h0=>
 .say [.byt b1] (ok1 (dL h0))<|
 .rt [0,3,4,5,51] 0 (decide (((b1.toNat:Int):Int)<160)))<|
 .rt [0,3,4,5,51] 0 (false)
def CU(b0:UInt8)(o0:Int)(p_s:ByteArray)(v0:Int):Option (Bool):=Mo.den (xu b0 o0 p_s v0)
def xw(b0:UInt8)(o0:Int)(p_s:ByteArray)(r0:Bool)(v0:Int):Mo (Bool):=
 .iG 32009 (r0) (.rt [0,3,4,5,62] 0 (true))<|
 .iG 32012 ((b0.toNat:Int)==237) (.ask (iw p_s (IntKind.wrap .i64 (v0+1))) fun b1 h0=>
 .say [.byt b1] (ok1 (dL h0))<|
 .rt [0,3,4,5,62] 0 (decide ((159:Int)<(b1.toNat:Int))))<|
 .rt [0,3,4,5,62] 0 (false)
def CV(b0:UInt8)(o0:Int)(p_s:ByteArray)(r0:Bool)(v0:Int):Option (Bool):=Mo.den (xw b0 o0 p_s r0 v0)
def xA(b0:UInt8)(o0:Int)(p_s:ByteArray)(r0:Bool)(v0:Int):Mo (Bool):=
 .iG 32020 (r0) (.rt [0,3,4,5,73] 0 (true))<|
 .iG 32023 ((b0.toNat:Int)==240) (.ask (iw p_s (IntKind.wrap .i64 (v0+1))) fun b1 h0=>
 .say [.byt b1] (ok1 (dL h0))<|
 .rt [0,3,4,5,73] 0 (decide (((b1.toNat:Int):Int)<144)))<|
 .rt [0,3,4,5,73] 0 (false)
def CW(b0:UInt8)(o0:Int)(p_s:ByteArray)(r0:Bool)(v0:Int):Option (Bool):=Mo.den (xA b0 o0 p_s r0 v0)
def xB(b0:UInt8)(o0:Int)(p_s:ByteArray)(r0:Bool)(v0:Int):Mo (Bool):=
 .iG 32031 (r0) (.rt [0,3,5,84] 0 (true))<|
 .iG 32034 ((b0.toNat:Int)==244) (.ask (iw p_s (IntKind.wrap .i64 (v0+1))) fun b1 h0=>
 .say [.byt b1] (ok1 (dL h0))<|
 .rt [0,3,5,84] 0 (decide ((143:Int)<(b1.toNat:Int))))<|
 .rt [0,3,5,84] 0 (false)
def CX(b0:UInt8)(o0:Int)(p_s:ByteArray)(r0:Bool)(v0:Int):Option (Bool):=Mo.den (xB b0 o0 p_s r0 v0)
def jM(p_s:ByteArray):(Int)→Mo ((Int)⊕(Unit⊕Unit)):=fun(v0)=>
 .iB (decide ((v0:Int)<(p_s.size:Int))) (.ask (iw p_s v0) fun b0 h0=>
 .say [.byt b0] (ok1 (dL h0))<|
 .jE (zB b0 p_s v0) (fun o0 h1=>
 .say [.pt_ 10 [0,3,4,5] 0 (xk (.inl o0)) (xq b0 p_s v0 (.inl o0))] (ok1 (NP h1))<|
 .cl (alH p_s (IntKind.wrap .i64 (v0+1)) o0) fun r0 _=>
 .iB (!r0) (.rt [2] 0 (.inr (.inl ())))<|
 .sj Tryz.f261 0 [1,0,1,0,0,1,0,1,1,1,1,0,0] [0,1,2,3,4,5,6,7,8] 15 9 [0,3,4,5] 0 (fun r_=>⟨[(0,.lf (.str p_s)),(3,.i_ v0),(4,.lf (.int .u8 (b0.toNat:Int))),(5,.i_ o0),(51,.b_ r_)],[]⟩) ⟨[(0,.lf (.str p_s)),(3,.i_ v0),(4,.lf (.int .u8 (b0.toNat:Int))),(5,.i_ o0)],[]⟩ (CU b0 o0 p_s v0) (sW (by kernel_rfl)) fun r1 _=>
 .sj Tryz.f261 0 [1,0,1,0,0,1,0,1,1,1,1,0,0] [9,10,11,12,13,14,15,16,17,18,19] 15 11 [0,3,4,5,51] 0 (fun r_=>⟨[(0,.lf (.str p_s)),(3,.i_ v0),(4,.lf (.int .u8 (b0.toNat:Int))),(5,.i_ o0),(62,.b_ r_)],[]⟩) ⟨[(0,.lf (.str p_s)),(3,.i_ v0),(4,.lf (.int .u8 (b0.toNat:Int))),(5,.i_ o0),(51,.b_ r1)],[]⟩ (CV b0 o0 p_s r1 v0) (sW (by kernel_rfl)) fun r2 _=>
 .sj Tryz.f261 0 [1,0,1,0,0,1,0,1,1,1,1,0,0] [20,21,22,23,24,25,26,27,28,29,30] 15 11 [0,3,4,5,62] 0 (fun r_=>⟨[(0,.lf (.str p_s)),(3,.i_ v0),(4,.lf (.int .u8 (b0.toNat:Int))),(5,.i_ o0),(73,.b_ r_)],[]⟩) ⟨[(0,.lf (.str p_s)),(3,.i_ v0),(4,.lf (.int .u8 (b0.toNat:Int))),(5,.i_ o0),(62,.b_ r2)],[]⟩ (CW b0 o0 p_s r2 v0) (sW (by kernel_rfl)) fun r3 _=>
 .sj Tryz.f261 0 [1,0,1,0,0,1,0,1,1,1,1,0,0] [31,32,33,34,35,36,37,38,39,40,41] 15 11 [0,3,4,5,73] 0 (fun r_=>⟨[(0,.lf (.str p_s)),(3,.i_ v0),(5,.i_ o0),(84,.b_ r_)],[]⟩) ⟨[(0,.lf (.str p_s)),(3,.i_ v0),(4,.lf (.int .u8 (b0.toNat:Int))),(5,.i_ o0),(73,.b_ r3)],[]⟩ (CX b0 o0 p_s r3 v0) (sW (by kernel_rfl)) fun r4 _=>
 .iB (r4) (.rt [2] 0 (.inr (.inl ())))<|
 .rt [0,3] 0 (.inl (IntKind.wrap .i64 ((IntKind.wrap .i64 (v0+o0))+1)))) fun o1 h1=>
 .say [.pt_ 10 [0,3,4,5] 0 (xk (.inr (o1))) (xq b0 p_s v0 (.inr (o1)))] (ok1 (NP h1))<|
 .rt [2] 0 (.inr (.inl ())))<|
 .rt [] 0 (.inr (.inr (())))
def JZ(p_s:ByteArray)(v0:Int):Option (Unit⊕Unit):=bP (fun v_=>(jM p_s v_).den) FU (v0)
def adu(p_s:ByteArray):Mo (Bool):=
 .l2m [] Tryz.f261 0 [1,0,1,0] 0 (fun(v0)=>⟨[(0,.lf (.str p_s)),(3,.i_ v0)],[]⟩) .ret (fun _=>⟨[(2,.b_ false)],[]⟩) (.exit 0) (fun _=>⟨[],[]⟩) (JZ p_s 0) (jM p_s) (0) (fun o0=>
 .ret (aX 1) (false)) fun o1=>
 .ret (aX 1) (true)
def Q0(p_s:ByteArray):Option (Bool):=Mo.den (adu p_s)
theorem anO(p_s:ByteArray):FV (Q0 p_s) 261 [.lf (.str p_s)] .b_:=bW Tryz.func261
def GL(p_s:ByteArray)(v0:Int):Mo (Bool):=
 .ask (iw p_s v0) fun b0 h0=>
 .say [.byt b0] (ok1 (dL h0))<|
 .iG 14004 (decide (((b0.toNat:Int):Int)<33)) (.rt [0,3,32] 0 (true))<|
 .ask (iw p_s v0) fun b1 h1=>
 .say [.byt b1] (ok1 (dL h1))<|
 .rt [0,3,32] 0 (decide ((126:Int)<(b1.toNat:Int)))
def GN(p_s:ByteArray)(r0:Bool)(v0:Int):Mo (Bool):=
 .iG 14010 (r0) (.rt [0,3,38] 0 (true))<|
 .ask (iw p_s v0) fun b0 h0=>
 .say [.byt b0] (ok1 (dL h0))<|
 .rt [0,3,38] 0 ((b0.toNat:Int)==46)
def GU(p_s:ByteArray):(Int)→Mo ((Int)⊕(Unit⊕Unit)):=fun(v0)=>
 .iB (decide ((v0:Int)<(p_s.size:Int))) (.sf Tryz.f120 0 [1,1,0,1,0,0,1,0,0,0] 0 10 6 [(0,.lf (.str p_s)),(3,.i_ v0)] [] 32 (GL p_s v0) fun r0=>
 .sb Tryz.f120 0 [1,1,0,1,0,0,1,0,0,0] 10 6 6 [(0,.lf (.str p_s)),(3,.i_ v0)] [] 32 38 r0 (GN p_s r0 v0) fun r1=>
 .iB (r1) (.rt [2] 0 (.inr (.inl ())))<|
 .rt [0,3] 0 (.inl (IntKind.wrap .i64 (v0+1))))<|
 .rt [] 0 (.inr (.inr (())))
def ajo(p_s:ByteArray):Mo (Bool):=
 .sf Tryz.f120 0 [1,0,0] 0 8 1 [(0,.lf (.str p_s))] [] 11 (wV p_s) fun r0=>
 .sb Tryz.f120 0 [1,0,0] 8 5 1 [(0,.lf (.str p_s))] [] 11 16 r0 (wW p_s r0) fun r1=>
 .iB (r1) (.ret (aX 1) (false))<|
 .l2 Tryz.f120 0 [1,1,0,1,0] 0 (fun(v0)=>⟨[(0,.lf (.str p_s)),(3,.i_ v0)],[]⟩) .ret (fun _=>⟨[(2,.b_ false)],[]⟩) (.exit 0) (fun _=>⟨[],[]⟩) (GU p_s) (0) (fun o0=>
 .ret (aX 1) (false)) fun o1=>
 .ret (aX 1) (true)
def Q44(p_s:ByteArray):Option (Bool):=Mo.den (ajo p_s)
theorem vI(p_s:ByteArray):FV (Q44 p_s) 120 [.lf (.str p_s)] .b_:=bW Tryz.func120
def Zc(p_s:ByteArray):Mo (Bool):=
 .oV 4003 (decide (((p_s.size:Int):Int)<1)) [0,11] 0 (decide ((128:Int)<(p_s.size:Int)))
def Zd(p_s:ByteArray)(v0:Int):Mo (Bool):=
 .ask (iw p_s v0) fun b0 h0=>
 .say [.byt b0] (ok1 (dL h0))<|
 .iG 14004 (decide (((b0.toNat:Int):Int)<32)) (.rt [0,3,27] 0 (true))<|
 .ask (iw p_s v0) fun b1 h1=>
 .say [.byt b1] (ok1 (dL h1))<|
 .rt [0,3,27] 0 (decide ((126:Int)<(b1.toNat:Int)))
def RU(p_s:ByteArray):(Int)→Mo ((Int)⊕(Unit⊕Unit)):=fun(v0)=>
 .iB (decide ((v0:Int)<(p_s.size:Int))) (.jk Tryz.f314 0 [1,1,0,1,0,0,1,0,0,0] 19 (fun r_=>⟨[(0,.lf (.str p_s)),(3,.i_ v0),(27,.b_ r_)],[]⟩) ⟨[(0,.lf (.str p_s)),(3,.i_ v0)],[]⟩ (Zd p_s v0) fun r0=>
 .iB (r0) (.rt [2] 0 (.inr (.inl ())))<|
 .rt [0,3] 0 (.inl (IntKind.wrap .i64 (v0+1))))<|
 .rt [] 0 (.inr (.inr (())))
def alI(p_s:ByteArray):Mo (Bool):=
 .jk Tryz.f314 0 [1,0,0] 9 (fun r_=>⟨[(0,.lf (.str p_s)),(11,.b_ r_)],[]⟩) ⟨[(0,.lf (.str p_s))],[]⟩ (Zc p_s) fun r0=>
 .iB (r0) (.ret (aX 1) (false))<|
 .l2 Tryz.f314 0 [1,1,0,1,0] 0 (fun(v0)=>⟨[(0,.lf (.str p_s)),(3,.i_ v0)],[]⟩) .ret (fun _=>⟨[(2,.b_ false)],[]⟩) (.exit 0) (fun _=>⟨[],[]⟩) (RU p_s) (0) (fun o0=>
 .ret (aX 1) (false)) fun o1=>
 .ret (aX 1) (true)
def apm(p_s:ByteArray):Option (Bool):=Mo.den (alI p_s)
theorem ahO(p_s:ByteArray):FV (apm p_s) 314 [.lf (.str p_s)] .b_:=bW Tryz.func314
abbrev J3(m:ah→Bool→Option (Bool)):Prop:=∀p_v p_names,FV (m p_v p_names) 191 [.dat (ah.lf1 p_v),.b_ p_names] .b_
abbrev Vs(m:ah→Bool→Option (Bool)):Prop:=∀p_v p_names,FV (m p_v p_names) 262 [.dat (ah.lf1 p_v),.b_ p_names] .b_
structure kJ where
 m1:(p_v:ah)→(p_names:Bool)→Option (Bool)
 ok1:J3 m1
 m2:(p_v:ah)→(p_names:Bool)→Option (Bool)
 ok2:Vs m2
def J4(R_:kJ)(p_names:Bool)(p_v:ah):Mo (Bool):=
 .iG 4003 (p_v.au != 6) (.nu p_v.aU ah.lf<|
 .rt [1,2,16] 1 (decide ((0:Int)<(p_v.aU.length:Int))))<|
 .rt [1,2,16] 1 (false)
def J5(R_:kJ)(p_names:Bool)(p_v:ah)(r0:Bool):Mo (Bool):=
 .iG 4009 (r0) (.rt [1,2,27] 1 (true))<|
 .iG 4013 (p_v.au != 5) (.nu p_v.aT ay.lf<|
 .rt [1,2,27] 1 (decide ((0:Int)<(p_v.aT.length:Int))))<|
 .rt [1,2,27] 1 (false)
def CY(R_:kJ)(p_names:Bool)(p_v:ah):Mo (Bool):=
 .oV 8003 (p_v.au==4) [1,2,35] 1 (p_v.au==7)
def CZ(R_:kJ)(p_names:Bool)(p_v:ah)(r0:Bool):Mo (Bool):=
 .oV 8008 (r0) [1,2,40] 1 (p_v.au==8)
def C9(R_:kJ)(p_names:Bool)(p_v:ah)(r0:Bool):Mo (Unit):=
 .rt [1,2,5] 1 ()
def Dc(R_:kJ)(p_names:Bool)(p_v:ah)(r0:Bool):Mo (Bool):=
 .oV 10003 (p_v.au==3) [1,2,5,48] 1 (p_v.au==9)
def Df(R_:kJ)(p_names:Bool)(p_v:ah)(r0:Bool)(r1:Bool):Mo (Bool):=
 .oV 10008 (r1) [1,2,5,53] 1 (p_v.au==10)
def Dh(R_:kJ)(p_names:Bool)(p_v:ah)(r0:Bool)(r1:Bool):Mo (Unit):=
 .rt [1,2,5,6] 1 ()
def Di(R_:kJ)(p_names:Bool)(p_v:ah)(r0:Bool)(r1:Bool):Mo (Bool):=
 .aV 12002 (!r0) [1,2,6,60] 1 (!decide ((p_v.fText:ByteArray)=(⟨#[]⟩:ByteArray)))
def Dj(R_:kJ)(p_names:Bool)(p_v:ah)(r0:Bool)(r1:Bool):Mo (Bool):=
 .iG 12007 (r1) (.rt [1,2,69] 1 (true))<|
 .aV 12010 (!r0) [1,2,69] 1 (p_v.dD != 0)
def Dk(R_:kJ)(p_names:Bool)(p_v:ah)(r0:Bool):Mo (Bool):=
 .oV 12016 (r0) [1,2,74] 1 (decide ((p_v.au:Int)<1))
def Dl(R_:kJ)(p_names:Bool)(p_v:ah)(r0:Bool):Mo (Bool):=
 .oV 12021 (r0) [1,2,79] 1 (decide ((11:Int)<p_v.au))
def Dn(R_:kJ)(p_v:ah):Mo (Bool):=
 .iG 20003 (p_v.dD==0) (.ret ⟨[.kill 0],[4],[],1⟩ (true))<|
 .ret ⟨[.kill 0],[4],[],1⟩ (p_v.dD==1)
def Dp(R_:kJ)(p_v:ah):Mo (Bool):=
 .iG 28004 (decide (((p_v.fText.size:Int):Int)≤4096)) (.cl (anO p_v.fText) fun r0 _=>
 .ret ⟨[.kill 0],[4],[],1⟩ (r0))<|
 .ret ⟨[.kill 0],[4],[],1⟩ (false)
def rU(R_:kJ)(p_names:Bool)(p_v:ah):(Int)→Mo ((Int)⊕(Unit⊕Unit)):=fun(v0)=>
 .nu p_v.aU ah.lf<|
 .iB (decide ((v0:Int)<(p_v.aU.length:Int))) (.gx ah.aS p_v.aU v0 fun x0 _=>
 .cl (R_.ok1 x0 p_names) fun r0 _=>
 .iB (!r0) (.ret ⟨[.kill 0],[4],[],1⟩ (.inr (.inl ())))<|
 .rt [1,2,7] 1 (.inl (IntKind.wrap .i64 (v0+1))))<|
 .rt [1,2] 1 (.inr (.inr (())))
def RV(R_:kJ)(p_names:Bool)(p_v:ah)(v0:Int):Option (Unit⊕Unit):=bP (fun v_=>(rU R_ p_names p_v v_).den) FU (v0)
def adv(R_:kJ)(p_v:ah)(p_names:Bool):Mo (Bool):=
 .sf Tryz.f191 0 [1,0,0] 0 9 1 [(1,.b_ p_names),(2,.ptr 0 0)] [aZ p_v] 16 (J4 R_ p_names p_v) fun r0=>
 .sb Tryz.f191 0 [1,0,0] 9 11 1 [(1,.b_ p_names),(2,.ptr 0 0)] [aZ p_v] 16 27 r0 (J5 R_ p_names p_v r0) fun r1=>
 .iB (r1) (.ret (aX 1) (false))<|
 .sf Tryz.f191 0 [1,1,0] 0 8 3 [(1,.b_ p_names),(2,.ptr 0 0)] [aZ p_v] 35 (CY R_ p_names p_v) fun r2=>
 .sb Tryz.f191 0 [1,1,0] 8 5 3 [(1,.b_ p_names),(2,.ptr 0 0)] [aZ p_v] 35 40 r2 (CZ R_ p_names p_v r2) fun r3=>
 .sk Tryz.f191 0 [1,1,0] 13 1 3 (fun r_=>⟨[(1,.b_ p_names),(2,.ptr 0 0),(5,.b_ r3)],[aZ p_v]⟩) ⟨[(1,.b_ p_names),(2,.ptr 0 0),(40,.b_ r3)],[aZ p_v]⟩ (C9 R_ p_names p_v r3) fun r4=>
 .sf Tryz.f191 0 [1,1,1,0] 0 8 4 [(1,.b_ p_names),(2,.ptr 0 0),(5,.b_ r3)] [aZ p_v] 48 (Dc R_ p_names p_v r3) fun r5=>
 .sb Tryz.f191 0 [1,1,1,0] 8 5 4 [(1,.b_ p_names),(2,.ptr 0 0),(5,.b_ r3)] [aZ p_v] 48 53 r5 (Df R_ p_names p_v r3 r5) fun r6=>
 .sk Tryz.f191 0 [1,1,1,0] 13 1 4 (fun r_=>⟨[(1,.b_ p_names),(2,.ptr 0 0),(5,.b_ r3),(6,.b_ r6)],[aZ p_v]⟩) ⟨[(1,.b_ p_names),(2,.ptr 0 0),(5,.b_ r3),(53,.b_ r6)],[aZ p_v]⟩ (Dh R_ p_names p_v r3 r6) fun r7=>
 .sk Tryz.f191 0 [1,1,1,1,0,0] 0 7 5 (fun r_=>⟨[(1,.b_ p_names),(2,.ptr 0 0),(6,.b_ r6),(60,.b_ r_)],[aZ p_v]⟩) ⟨[(1,.b_ p_names),(2,.ptr 0 0),(5,.b_ r3),(6,.b_ r6)],[aZ p_v]⟩ (Di R_ p_names p_v r3 r6) fun r8=>
 .sk Tryz.f191 0 [1,1,1,1,0,0] 7 9 5 (fun r_=>⟨[(1,.b_ p_names),(2,.ptr 0 0),(69,.b_ r_)],[aZ p_v]⟩) ⟨[(1,.b_ p_names),(2,.ptr 0 0),(6,.b_ r6),(60,.b_ r8)],[aZ p_v]⟩ (Dj R_ p_names p_v r6 r8) fun r9=>
 .sb Tryz.f191 0 [1,1,1,1,0,0] 16 5 5 [(1,.b_ p_names),(2,.ptr 0 0)] [aZ p_v] 69 74 r9 (Dk R_ p_names p_v r9) fun r10=>
 .sb Tryz.f191 0 [1,1,1,1,0,0] 21 5 5 [(1,.b_ p_names),(2,.ptr 0 0)] [aZ p_v] 74 79 r10 (Dl R_ p_names p_v r10) fun r11=>
 .iB (r11) (.ret (aX 1) (false))<|
 .iB (p_v.au==9) (.jk Tryz.f191 0 [1,1,1,1,1,0,1,0,1,0,0] 25 (fun r_=>⟨[(4,.b_ r_)],[.dead]⟩) ⟨[(2,.ptr 0 0)],[aZ p_v]⟩ (Dn R_ p_v) fun r12=>
 .ret (aX 1) (r12))<|
 .iB (p_v.au==10) (.ret (aX 1) (decide ((0:Int)≤p_v.dD)))<|
 .iB (p_v.au==4) (.jk Tryz.f191 0 [1,1,1,1,1,0,1,0,1,1,1,1,1,0,0] 33 (fun r_=>⟨[(4,.b_ r_)],[.dead]⟩) ⟨[(2,.ptr 0 0)],[aZ p_v]⟩ (Dp R_ p_v) fun r13=>
 .ret (aX 1) (r13))<|
 .iB (p_v.au==7) (.ret (aX 1) (decide (((p_v.fText.size:Int):Int)≤4096)))<|
 .iB (p_v.au==8) (.ret (aX 1) ((p_v.fText.size:Int)==12))<|
 .l2m [] Tryz.f191 0 [1,1,1,1,1,1,0,1,0] 0 (fun(v0)=>⟨[(1,.b_ p_names),(2,.ptr 0 0),(7,.i_ v0)],[aZ p_v]⟩) .ret (fun _=>⟨[(4,.b_ false)],[.dead]⟩) (.exit 1) (fun _=>⟨[(1,.b_ p_names),(2,.ptr 0 0)],[aZ p_v]⟩) (RV R_ p_names p_v 0) (rU R_ p_names p_v) (0) (fun o0=>
 .ret (aX 1) (false)) fun o1=>
 .cl (R_.ok2 p_v p_names) fun r14 _=>
 .ret (aX 1) (r14)
theorem alJ(R_:kJ):J3 fun p_v p_names=>Mo.den (adv R_ p_v p_names):=fun _ _=>bW Tryz.func191
def J6(R_:kJ)(p_names:Bool)(p_v:ah)(v0:Int)(x0:ay):Mo (Bool):=
 .iG 12001 (p_names) (.cl (vI x0.fName) fun r0 _=>
 .rt [1,2,5,6,26] 2 (!r0))<|
 .rt [1,2,5,6,26] 2 (false)
def J7(R_:kJ)(p_names:Bool)(p_v:ah)(r0:Bool)(v0:Int)(x0:ay):Mo (Bool):=
 .iG 12007 (r0) (.rt [1,2,5,6,36] 2 (true))<|
 .iG 12010 (!p_names) (.cl (ahO x0.fName) fun r1 _=>
 .rt [1,2,5,6,36] 2 (!r1))<|
 .rt [1,2,5,6,36] 2 (false)
def Dq(R_:kJ)(p_names:Bool)(p_v:ah)(r0:Bool)(v0:Int)(x0:ay):Mo (Bool):=
 .iG 12017 (r0) (.rt [1,2,5,6,43] 2 (true))<|
 .cl (R_.ok1 x0.fValue p_names) fun r1 _=>
 .rt [1,2,5,6,43] 2 (!r1)
def rV(R_:kJ)(p_names:Bool)(p_v:ah)(v0:Int)(x0:ay):(Int)→Mo ((Int)⊕(Unit⊕Unit)):=fun(v1)=>
 .iB (decide ((v1:Int)<v0)) (.say [.order [(true,0),(true,1),(true,2),(true,3),(true,4),(true,5),(true,6),(true,7),(true,8)] none []] ok0<|
 .gx ay.aS p_v.aT v1 fun x1 _=>
 .iB (decide ((x1.fName:ByteArray)=(x0.fName:ByteArray))) (.ret ⟨[.kill 0,.kill 1],[4],[],2⟩ (.inr (.inl ())))<|
 .rt [1,2,5,6,7] 2 (.inl (IntKind.wrap .i64 (v1+1))))<|
 .ret ⟨[.kill 1],[1,2,5],[],2⟩ (.inr (.inr (())))
def RX(R_:kJ)(p_names:Bool)(p_v:ah)(v0:Int)(x0:ay)(v1:Int):Option (Unit⊕Unit):=bP (fun v_=>(rV R_ p_names p_v v0 x0 v_).den) FU (v1)
def rW(R_:kJ)(p_names:Bool)(p_v:ah):(Int)→Mo ((Int)⊕(Unit⊕Unit)):=fun(v0)=>
 .nu p_v.aT ay.lf<|
 .iB (decide ((v0:Int)<(p_v.aT.length:Int))) (.gx ay.aS p_v.aT v0 fun x0 _=>
 .sf Tryz.f262 0 [1,0,1,0,0,1,0,0,1,0,0] 0 7 5 [(1,.b_ p_names),(2,.ptr 0 0),(5,.i_ v0),(6,.ptr 1 0)] [aZ p_v,.box 115 (.agg ((ay.lf1 x0).map AV.lf))] 26 (J6 R_ p_names p_v v0 x0) fun r0=>
 .sb Tryz.f262 0 [1,0,1,0,0,1,0,0,1,0,0] 7 10 5 [(1,.b_ p_names),(2,.ptr 0 0),(5,.i_ v0),(6,.ptr 1 0)] [aZ p_v,.box 115 (.agg ((ay.lf1 x0).map AV.lf))] 26 36 r0 (J7 R_ p_names p_v r0 v0 x0) fun r1=>
 .sb Tryz.f262 0 [1,0,1,0,0,1,0,0,1,0,0] 17 7 5 [(1,.b_ p_names),(2,.ptr 0 0),(5,.i_ v0),(6,.ptr 1 0)] [aZ p_v,.box 115 (.agg ((ay.lf1 x0).map AV.lf))] 36 43 r1 (Dq R_ p_names p_v r1 v0 x0) fun r2=>
 .iB (r2) (.ret ⟨[.kill 0],[4],[],1⟩ (.inr (.inl ())))<|
 .l2m [] Tryz.f262 0 [1,0,1,0,0,1,0,0,1,1,1,0] 0 (fun(v1)=>⟨[(1,.b_ p_names),(2,.ptr 0 0),(5,.i_ v0),(6,.ptr 1 0),(7,.i_ v1)],[aZ p_v,.box 115 (.agg ((ay.lf1 x0).map AV.lf))]⟩) .ret (fun _=>⟨[(4,.b_ false)],[.dead,.dead]⟩) (.exit 2) (fun _=>⟨[(1,.b_ p_names),(2,.ptr 0 0),(5,.i_ v0)],[aZ p_v,.dead]⟩) (RX R_ p_names p_v v0 x0 0) (rV R_ p_names p_v v0 x0) (0) (fun o0=>
 .rt [4] 1 (.inr (.inl ()))) fun o1=>
 .rt [1,2,5] 1 (.inl (IntKind.wrap .i64 (v0+1))))<|
 .ret ⟨[.kill 0],[],[],1⟩ (.inr (.inr (())))
def RY(R_:kJ)(p_names:Bool)(p_v:ah)(v0:Int):Option (Unit⊕Unit):=bP (fun v_=>(rW R_ p_names p_v v_).den) FU (v0)
def adw(R_:kJ)(p_v:ah)(p_names:Bool):Mo (Bool):=
 .l2m [] Tryz.f262 0 [1,0,1,0] 0 (fun(v0)=>⟨[(1,.b_ p_names),(2,.ptr 0 0),(5,.i_ v0)],[aZ p_v]⟩) .ret (fun _=>⟨[(4,.b_ false)],[.dead]⟩) (.exit 0) (fun _=>⟨[],[.dead]⟩) (RY R_ p_names p_v 0) (rW R_ p_names p_v) (0) (fun o0=>
 .ret (aX 1) (false)) fun o1=>
 .ret (aX 1) (true)
theorem alK(R_:kJ):Vs fun p_v p_names=>Mo.den (adw R_ p_v p_names):=fun _ _=>bW Tryz.func262
def jT:Nat→kJ
 |0=>{ m1:=fun p_v p_names=>none,ok1:=fun _ _ _ h=>(by cases h),m2:=fun p_v p_names=>none,ok2:=fun _ _ _ h=>(by cases h) }
 |n_+1=>{ m1:=fun p_v p_names=>Mo.den (adv (jT n_) p_v p_names),ok1:=alJ (jT n_),m2:=fun p_v p_names=>Mo.den (adw (jT n_) p_v p_names),ok2:=alK (jT n_) }
def Q1(p_v:ah)(p_names:Bool):Option (Bool):=(jT FU).m1 p_v p_names
theorem anP:J3 Q1:=(jT FU).ok1
def Q9(p_v:ah)(p_names:Bool):Option (Bool):=(jT FU).m2 p_v p_names
def adx(p_v:ah):Mo (Bool):=
 .cl (ahL p_v) fun r0 _=>
 .iG 4003 (decide ((r0:Int)≤16)) (.cl (ahN p_v) fun r1 _=>
 .iG 4008 (decide ((r1:Int)≤1024)) (.cl (anP p_v true) fun r2 _=>
 .ret (aX 1) (r2))<|
 .ret (aX 1) (false))<|
 .ret (aX 1) (false)
def Q65(p_v:ah):Option (Bool):=Mo.den (adx p_v)
theorem qF(p_v:ah):FV (Q65 p_v) 123 [.dat (ah.lf1 p_v)] .b_:=bW Tryz.func123
abbrev J8(m:ah→Option (ByteArray)):Prop:=∀p_v,FV (m p_v) 280 [.dat (ah.lf1 p_v)] (fun r=>.lf (.str r))
structure ER where
 m1:(p_v:ah)→Option (ByteArray)
 ok1:J8 m1
def NQ(R_:ER)(p_v:ah):Mo (Bool):=
 .iB (p_v.au==3) (.rt [1,3,12,13] 2 (p_v.au==3))<|
 .rt [1,3,12,13] 2 (p_v.au==10)
def NR(R_:ER)(p_v:ah):Mo (Bool):=
 .iB (p_v.au==4) (.rt [1,3,12,30] 2 (p_v.au==4))<|
 .rt [1,3,12,30] 2 (p_v.au==7)
def tY(R_:ER)(p_v:ah):(ByteArray×Int)→Mo ((ByteArray×Int)⊕(ByteArray)):=fun(v0,v1)=>
 .nu p_v.aU ah.lf<|
 .iB (decide ((v1:Int)<(p_v.aU.length:Int))) (.gx ah.aS p_v.aU v1 fun x0 _=>
 .cl (R_.ok1 x0) fun r0 _=>
 .grd (v0.size+r0.size≤9223372036854775807) fun h0=>
 .say [] (ok1 h0)<|
 .rt [1,3,4] 2 (.inl (v0++r0,IntKind.wrap .i64 (v1+1))))<|
 .ret ⟨[.kill 0],[3],[],2⟩ (.inr (v0))
def Vt(R_:ER)(p_v:ah)(v0:ByteArray)(v1:Int):Option (ByteArray):=bP (fun v_=>(tY R_ p_v v_).den) FU (v0,v1)
theorem apn:EM (opsOf (Code.sub (bodyC Tryz.f280) [1,1,0,1,0,1,1,1,1,1,1,1,1,1,1,1,0,1,1,0,0,1,0,0])) [(true,0),(true,1),(true,2),(true,3),(true,4),(true,5),(true,6),(true,7),(true,10),(true,11),(true,12),(true,13),(true,14),(true,15),(true,17),(true,18),(true,19),(true,20),(true,21),(true,22),(false,8),(true,9),(true,16),(false,23),(true,24),(true,25)] none=true:=by kernel_rfl
def tZ(R_:ER)(p_v:ah):(ByteArray×Int)→Mo ((ByteArray×Int)⊕(ByteArray)):=fun(v0,v1)=>
 .nu p_v.aT ay.lf<|
 .iB (decide ((v1:Int)<(p_v.aT.length:Int))) (.say [.qY [(true,0),(true,1),(true,2),(true,3),(true,4),(true,5),(true,6),(true,7),(true,10),(true,11),(true,12),(true,13),(true,14),(true,15),(true,17),(true,18),(true,19),(true,20),(true,21),(true,22),(false,8),(true,9),(true,16),(false,23),(true,24),(true,25)] none []] (ok1 apn)<|
 .gx ay.aS p_v.aT v1 fun x0 _=>
 .gx ay.aS p_v.aT v1 fun x1 _=>
 .gx ay.aS p_v.aT v1 fun x2 _=>
 .cl (zA (x0.fName.size:Int)) fun r0 _=>
 .grd (v0.size+r0.size≤9223372036854775807) fun h0=>
 .say [] (ok1 h0)<|
 .grd ((v0++r0).size+x1.fName.size≤9223372036854775807) fun h1=>
 .say [] (ok1 h1)<|
 .cl (R_.ok1 x2.fValue) fun r1 _=>
 .grd (((v0++r0)++x1.fName).size+r1.size≤9223372036854775807) fun h2=>
 .say [] (ok1 h2)<|
 .rt [1,3,5] 2 (.inl (((v0++r0)++x1.fName)++r1,IntKind.wrap .i64 (v1+1))))<|
 .ret ⟨[.kill 0],[3],[],2⟩ (.inr (v0))
def Vu(R_:ER)(p_v:ah)(v0:ByteArray)(v1:Int):Option (ByteArray):=bP (fun v_=>(tZ R_ p_v v_).den) FU (v0,v1)
def GV(R_:ER)(p_v:ah):Mo (ByteArray):=
 .jk Tryz.f280 0 [1,1,0,1,0,0,1] 1 (fun r_=>⟨[(1,.ptr 0 0),(3,.lf (.str (strOfNums [IntKind.wrap .u8 p_v.au]))),(12,.i_ p_v.au),(13,.b_ r_)],[aZ p_v,.dead]⟩) ⟨[(1,.ptr 0 0),(3,.lf (.str (strOfNums [IntKind.wrap .u8 p_v.au]))),(12,.i_ p_v.au),(13,.lf (.bool (p_v.au==3)))],[aZ p_v,.dead]⟩ (NQ R_ p_v) fun r0=>
 .iB (r0) (.cl (zA p_v.dD) fun r1 _=>
 .grd ((strOfNums [IntKind.wrap .u8 p_v.au]).size+r1.size≤9223372036854775807) fun h0=>
 .say [] (ok1 h0)<|
 .ret ⟨[.kill 0],[3],[],2⟩ ((strOfNums [IntKind.wrap .u8 p_v.au])++r1))<|
 .iB (p_v.au==9) (.say [.nums [IntKind.wrap .u8 p_v.dD]] (ok1 (by simp[lfI,lfK]:[((lfK .u8) (IntKind.wrap .u8 p_v.dD))]=[IntKind.wrap .u8 p_v.dD].map fun n=>[Lf.int .u8 n]))<|
 .grd ((strOfNums [IntKind.wrap .u8 p_v.au]).size+(strOfNums [IntKind.wrap .u8 p_v.dD]).size≤9223372036854775807) fun h1=>
 .say [] (ok1 h1)<|
 .ret ⟨[.kill 0],[3],[],2⟩ ((strOfNums [IntKind.wrap .u8 p_v.au])++(strOfNums [IntKind.wrap .u8 p_v.dD])))<|
 .jk Tryz.f280 0 [1,1,0,1,0,1,1,1,1,0,1] 1 (fun r_=>⟨[(1,.ptr 0 0),(3,.lf (.str (strOfNums [IntKind.wrap .u8 p_v.au]))),(12,.i_ p_v.au),(30,.b_ r_)],[aZ p_v,.dead]⟩) ⟨[(1,.ptr 0 0),(3,.lf (.str (strOfNums [IntKind.wrap .u8 p_v.au]))),(12,.i_ p_v.au),(30,.lf (.bool (p_v.au==4)))],[aZ p_v,.dead]⟩ (NR R_ p_v) fun r2=>
 .iB (r2) (.say [.order [(true,0),(true,1),(true,2),(true,3),(true,6),(true,7),(false,4),(true,5),(true,8),(true,9)] none []] ok0<|
 .cl (zA (p_v.fText.size:Int)) fun r3 _=>
 .grd ((strOfNums [IntKind.wrap .u8 p_v.au]).size+r3.size≤9223372036854775807) fun h2=>
 .say [] (ok1 h2)<|
 .grd (((strOfNums [IntKind.wrap .u8 p_v.au])++r3).size+p_v.fText.size≤9223372036854775807) fun h3=>
 .say [] (ok1 h3)<|
 .ret ⟨[.kill 0],[3],[],2⟩ (((strOfNums [IntKind.wrap .u8 p_v.au])++r3)++p_v.fText))<|
 .iB (p_v.au==8) (.grd ((strOfNums [IntKind.wrap .u8 p_v.au]).size+p_v.fText.size≤9223372036854775807) fun h4=>
 .say [] (ok1 h4)<|
 .ret ⟨[.kill 0],[3],[],2⟩ ((strOfNums [IntKind.wrap .u8 p_v.au])++p_v.fText))<|
 .iB (p_v.au==6) (.nu p_v.aU ah.lf<|
 .cl (zA (p_v.aU.length:Int)) fun r4 _=>
 .grd ((strOfNums [IntKind.wrap .u8 p_v.au]).size+r4.size≤9223372036854775807) fun h5=>
 .say [] (ok1 h5)<|
 .l1m [] Tryz.f280 0 [1,1,0,1,0,1,1,1,1,1,1,1,1,1,0,1,1,0] 0 (.exit 1) (fun(v0,v1)=>⟨[(1,.ptr 0 0),(3,.lf (.str v0)),(4,.i_ v1)],[aZ p_v,.dead]⟩) (fun r_=>⟨[(3,.lf (.str r_))],[.dead,.dead]⟩) (Vt R_ p_v ((strOfNums [IntKind.wrap .u8 p_v.au])++r4) 0) (tY R_ p_v) (((strOfNums [IntKind.wrap .u8 p_v.au])++r4),0) fun r5=>
 .rt [3] 2 (r5))<|
 .iB (p_v.au==5) (.nu p_v.aT ay.lf<|
 .cl (zA (p_v.aT.length:Int)) fun r6 _=>
 .grd ((strOfNums [IntKind.wrap .u8 p_v.au]).size+r6.size≤9223372036854775807) fun h6=>
 .say [] (ok1 h6)<|
 .l1m [] Tryz.f280 0 [1,1,0,1,0,1,1,1,1,1,1,1,1,1,1,1,0,1,1,0] 0 (.exit 3) (fun(v2,v3)=>⟨[(1,.ptr 0 0),(3,.lf (.str v2)),(5,.i_ v3)],[aZ p_v,.dead]⟩) (fun r_=>⟨[(3,.lf (.str r_))],[.dead,.dead]⟩) (Vu R_ p_v ((strOfNums [IntKind.wrap .u8 p_v.au])++r6) 0) (tZ R_ p_v) (((strOfNums [IntKind.wrap .u8 p_v.au])++r6),0) fun r7=>
 .rt [3] 2 (r7))<|
 .ret ⟨[.kill 0],[3],[],2⟩ (strOfNums [IntKind.wrap .u8 p_v.au])
def ady(R_:ER)(p_v:ah):Mo (ByteArray):=
 .say [.nums [IntKind.wrap .u8 p_v.au]] (ok1 (by simp[lfI,lfK]:[((lfK .u8) (IntKind.wrap .u8 p_v.au))]=[IntKind.wrap .u8 p_v.au].map fun n=>[Lf.int .u8 n]))<|
 .jy [.kill 1] Tryz.f280 0 [1,1,0,1] 6 (.normal) (fun r_=>⟨[(3,.lf (.str r_))],[.dead,.dead]⟩) ⟨[(1,.ptr 0 0),(3,.lf (.str (strOfNums [IntKind.wrap .u8 p_v.au]))),(12,.i_ p_v.au)],[aZ p_v,.dead]⟩ (GV R_ p_v) fun r0=>
 .ret (aX 1) (r0)
theorem ahP(R_:ER):J8 fun p_v=>Mo.den (ady R_ p_v):=fun _=>bW Tryz.func280
def rX:Nat→ER
 |0=>{ m1:=fun p_v=>none,ok1:=fun _ _ h=>(by cases h) }
 |n_+1=>{ m1:=fun p_v=>Mo.den (ady (rX n_) p_v),ok1:=ahP (rX n_) }
def Q17(p_v:ah):Option (ByteArray):=(rX FU).m1 p_v
theorem alL:J8 Q17:=(rX FU).ok1
def adz(p_v:ah):Mo (ByteArray×Int):=
 .cl (qF p_v) fun r0 _=>
 .iB (!r0) (.ret (aX 2) (⟨#[]⟩,8))<|
 .cl (alL p_v) fun r1 _=>
 .ret (aX 2) (r1,0)
def alM(p_v:ah):Option (ByteArray×Int):=Mo.den (adz p_v)
theorem Vw(p_v:ah):FV (alM p_v) 218 [.dat (ah.lf1 p_v)] (fun r=>.tup [.lf (.str r.1),.i_ r.2]):=bW Tryz.func218
abbrev J9(m:ah→aI→Option (aI)):Prop:=∀p_v p_b0,FH (m p_v p_b0) 140 [.ptr 0 0,.dat (ah.lf1 p_v)] [dQ p_b0] (fun _=>.tup []) (fun r=>[dQ r])
abbrev Ko(m:(List ah)→aI→Option (aI)):Prop:=∀p_l p_b0,FH (m p_l p_b0) 217 [.ptr 0 0,.lf (.rows 5 (p_l.map ah.lf))] [dQ p_b0] (fun _=>.tup []) (fun r=>[dQ r])
structure ES where
 m1:(p_v:ah)→(p_b0:aI)→Option (aI)
 ok1:J9 m1
 m2:(p_l:List ah)→(p_b0:aI)→Option (aI)
 ok2:Ko m2
def xC(R_:ES)(p_v:ah):(Int×aI)→Mo ((Int×aI)⊕(aI)):=fun(v0,s8009)=>
 .nu p_v.aT ay.lf<|
 .iB (decide ((v0:Int)<(p_v.aT.length:Int))) (.gx ay.aS p_v.aT v0 fun x0 _=>
 .cH [0] (oI x0.fName s8009) fun r0 _=>
 .gx ay.aS p_v.aT v0 fun x1 _=>
 .cH [0] (R_.ok1 x1.fValue r0) fun r1 _=>
 .rt [0,3,4] 2 (.inl (IntKind.wrap .i64 (v0+1),r1)))<|
 .ret ⟨[.kill 1],[],[],2⟩ (.inr (s8009))
def RZ(R_:ES)(p_v:ah)(v0:Int)(s8009:aI):Option (aI):=bP (fun v_=>(xC R_ p_v v_).den) FU (v0,s8009)
def adA(R_:ES)(p_b0:aI)(r0:ByteArray×Int):Mo (aI):=
 .iG 32005 (p_b0.wI) (.rt [0,5] 2 (aI.mk p_b0.fS true p_b0.qV))<|
 .rt [0,5] 2 (aI.mk p_b0.fS (r0.2 != 0) p_b0.qV)
def adB(R_:ES)(p_v:ah)(p_b0:aI):Mo (aI):=
 .iB (p_b0.qV) (.cH [0] (gY p_v.au p_b0) fun r0 _=>
 .cH [0] (gY p_v.dD r0) fun r1 _=>
 .cH [0] (oI p_v.fText r1) fun r2 _=>
 .ask (R_.m2 p_v.aU r2) fun r3 h0=>
 .say [.fZ [0] (.tup []) [dQ r3],.num p_v.aT.length] (okc (R_.ok2 _ _ _ h0) (ok1 (ln_ p_v.aT ay.lf)))<|
 .cH [0] (gY (p_v.aT.length:Int) r3) fun r4 _=>
 .l1m [] Tryz.f140 1 [1,0,1,0,1,1,1,1,1,0,1,0] 0 (.exit 0) (fun(v0,s8009)=>⟨[(0,.ptr 0 0),(3,.ptr 1 0),(4,.i_ v0)],[dQ s8009,aZ p_v]⟩) (fun r_=>⟨[],[dQ r_,.dead]⟩) (RZ R_ p_v 0 r4) (xC R_ p_v) (0,r4) fun r5=>
 .rt [] 1 (r5))<|
 .cl (vH p_v) fun r6 _=>
 .iB (r6) (.grd (p_b0.fS.size+(⟨#[0]⟩:ByteArray).size≤9223372036854775807) fun h1=>
 .say [] (ok1 h1)<|
 .ret ⟨[.kill 1],[],[],1⟩ (aI.mk (p_b0.fS++⟨#[0]⟩) p_b0.wI p_b0.qV))<|
 .cl (Vw p_v) fun r7 _=>
 .jy [.kill 1] Tryz.f140 1 [1,1,1,1,0] 37 (.normal) (fun r_=>⟨[(0,.ptr 0 0),(5,.lf (.str r7.1))],[dQ r_,.dead]⟩) ⟨[(0,.ptr 0 0),(5,.lf (.str r7.1)),(6,.i_ r7.2)],[dQ p_b0,.dead]⟩ (adA R_ p_b0 r7) fun r8=>
 .grd ((⟨#[1]⟩:ByteArray).size+r7.1.size≤9223372036854775807) fun h2=>
 .say [] (ok1 h2)<|
 .grd (r8.fS.size+((⟨#[1]⟩:ByteArray)++r7.1).size≤9223372036854775807) fun h3=>
 .say [] (ok1 h3)<|
 .rt [] 1 (aI.mk (r8.fS++((⟨#[1]⟩:ByteArray)++r7.1)) r8.wI r8.qV)
theorem ahQ(R_:ES):J9 fun p_v p_b0=>Mo.den (adB R_ p_v p_b0):=fun _ _=>dX Tryz.func140
def xE(R_:ES)(p_l:List ah):(Int×aI)→Mo ((Int×aI)⊕(aI)):=fun(v0,s9581)=>
 .nu p_l ah.lf<|
 .iB (decide ((v0:Int)<(p_l.length:Int))) (.gx ah.aS p_l v0 fun x0 _=>
 .cH [0] (R_.ok1 x0 s9581) fun r0 _=>
 .rt [0,1,4] 1 (.inl (IntKind.wrap .i64 (v0+1),r0)))<|
 .rt [] 1 (.inr (s9581))
def Si(R_:ES)(p_l:List ah)(v0:Int)(s9581:aI):Option (aI):=bP (fun v_=>(xE R_ p_l v_).den) FU (v0,s9581)
def adC(R_:ES)(p_l:List ah)(p_b0:aI):Mo (aI):=
 .nu p_l ah.lf<|
 .cH [0] (gY (p_l.length:Int) p_b0) fun r0 _=>
 .l1m [] Tryz.f217 1 [1,1,0] 0 (.exit 0) (fun(v0,s9581)=>⟨[(0,.ptr 0 0),(1,.lf (.rows 5 (p_l.map ah.lf))),(4,.i_ v0)],[dQ s9581]⟩) (fun r_=>⟨[],[dQ r_]⟩) (Si R_ p_l 0 r0) (xE R_ p_l) (0,r0) fun r1=>
 .rt [] 1 (r1)
theorem ahR(R_:ES):Ko fun p_l p_b0=>Mo.den (adC R_ p_l p_b0):=fun _ _=>dX Tryz.func217
def jU:Nat→ES
 |0=>{ m1:=fun p_v p_b0=>none,ok1:=fun _ _ _ h=>(by cases h),m2:=fun p_l p_b0=>none,ok2:=fun _ _ _ h=>(by cases h) }
 |n_+1=>{ m1:=fun p_v p_b0=>Mo.den (adB (jU n_) p_v p_b0),ok1:=ahQ (jU n_),m2:=fun p_l p_b0=>Mo.den (adC (jU n_) p_l p_b0),ok2:=ahR (jU n_) }
def Q24(p_v:ah)(p_b0:aI):Option (aI):=(jU FU).m1 p_v p_b0
theorem vJ:J9 Q24:=(jU FU).ok1
def Q38(p_l:List ah)(p_b0:aI):Option (aI):=(jU FU).m2 p_l p_b0
theorem adD:Ko Q38:=(jU FU).ok2
def xG(p_l:List ByteArray):(Int×aI)→Mo ((Int×aI)⊕(aI)):=fun(v0,s9649)=>
 .nu p_l lfS<|
 .iB (decide ((v0:Int)<(p_l.length:Int))) (.gx lS_ p_l v0 fun x0 _=>
 .cH [0] (oI x0 s9649) fun r0 _=>
 .rt [0,1,4] 1 (.inl (IntKind.wrap .i64 (v0+1),r0)))<|
 .rt [] 1 (.inr (s9649))
def Sj(p_l:List ByteArray)(v0:Int)(s9649:aI):Option (aI):=bP (fun v_=>(xG p_l v_).den) FU (v0,s9649)
def ajp(p_l:List ByteArray)(p_b0:aI):Mo (aI):=
 .nu p_l lfS<|
 .cH [0] (gY (p_l.length:Int) p_b0) fun r0 _=>
 .l1m [] Tryz.f220 1 [1,1,0] 0 (.exit 0) (fun(v0,s9649)=>⟨[(0,.ptr 0 0),(1,.lf (.rows 1 (p_l.map lfS))),(4,.i_ v0)],[dQ s9649]⟩) (fun r_=>⟨[],[dQ r_]⟩) (Sj p_l 0 r0) (xG p_l) (0,r0) fun r1=>
 .rt [] 1 (r1)
def Q34(p_l:List ByteArray)(p_b0:aI):Option (aI):=Mo.den (ajp p_l p_b0)
theorem Dt(p_l:List ByteArray)(p_b0:aI):FH (Q34 p_l p_b0) 220 [.ptr 0 0,.lf (.rows 1 (p_l.map lfS))] [dQ p_b0] (fun _=>.tup []) (fun r=>[dQ r]):=dX Tryz.func220
def ajq(p_b:Bool)(p_b0:aI):Mo (aI):=
 .iB (p_b) (.grd (p_b0.fS.size+(⟨#[1]⟩:ByteArray).size≤9223372036854775807) fun h0=>
 .say [] (ok1 h0)<|
 .rt [] 1 (aI.mk (p_b0.fS++⟨#[1]⟩) p_b0.wI p_b0.qV))<|
 .grd (p_b0.fS.size+(⟨#[0]⟩:ByteArray).size≤9223372036854775807) fun h1=>
 .say [] (ok1 h1)<|
 .rt [] 1 (aI.mk (p_b0.fS++⟨#[0]⟩) p_b0.wI p_b0.qV)
def Q59(p_b:Bool)(p_b0:aI):Option (aI):=Mo.den (ajq p_b p_b0)
theorem qG(p_b:Bool)(p_b0:aI):FH (Q59 p_b p_b0) 143 [.ptr 0 0,.b_ p_b] [dQ p_b0] (fun _=>.tup []) (fun r=>[dQ r]):=dX Tryz.func143
def xH(p_s:dJ):(Int×aI)→Mo ((Int×aI)⊕(aI)):=fun(v0,s9814)=>
 .nu p_s.cO bT.lf<|
 .iB (decide ((v0:Int)<(p_s.cO.length:Int))) (.gx bT.aS p_s.cO v0 fun x0 _=>
 .cH [0] (gY x0.fX s9814) fun r0 _=>
 .gx bT.aS p_s.cO v0 fun x1 _=>
 .cH [0] (gY x1.fY r0) fun r1 _=>
 .rt [0,3,4] 2 (.inl (IntKind.wrap .i64 (v0+1),r1)))<|
 .rt [0,3] 2 (.inr (s9814))
def Sl(p_s:dJ)(v0:Int)(s9814:aI):Option (aI):=bP (fun v_=>(xH p_s v_).den) FU (v0,s9814)
def ajr(p_s:dJ)(p_b0:aI):Mo (aI):=
 .ask (Q6 p_s.au p_b0) fun r0 h0=>
 .say [.fZ [0] (.tup []) [dQ r0],.num p_s.cO.length] (okc (gY _ _ _ h0) (ok1 (ln_ p_s.cO bT.lf)))<|
 .cH [0] (gY (p_s.cO.length:Int) r0) fun r1 _=>
 .l1m [] Tryz.f281 1 [1,1,1,0,1,0] 0 (.exit 0) (fun(v0,s9814)=>⟨[(0,.ptr 0 0),(3,.ptr 1 0),(4,.i_ v0)],[dQ s9814,uN p_s]⟩) (fun r_=>⟨[(0,.ptr 0 0),(3,.ptr 1 0)],[dQ r_,uN p_s]⟩) (Sl p_s 0 r1) (xH p_s) (0,r1) fun r2=>
 .cH [0] (gY p_s.fR r2) fun r3 _=>
 .ret ⟨[.kill 1],[],[],1⟩ (r3)
def Q58(p_s:dJ)(p_b0:aI):Option (aI):=Mo.den (ajr p_s p_b0)
theorem alN(p_s:dJ)(p_b0:aI):FH (Q58 p_s p_b0) 281 [.ptr 0 0,.dat (dJ.lf1 p_s)] [dQ p_b0] (fun _=>.tup []) (fun r=>[dQ r]):=dX Tryz.func281
abbrev Kq(m:aO→aI→Option (aI)):Prop:=∀p_e p_b0,FH (m p_e p_b0) 282 [.ptr 0 0,.dat (aO.lf1 p_e)] [dQ p_b0] (fun _=>.tup []) (fun r=>[dQ r])
structure adE where
 m1:(p_e:aO)→(p_b0:aI)→Option (aI)
 ok1:Kq m1
def xI(R_:adE)(p_e:aO):(Int×aI)→Mo ((Int×aI)⊕(aI)):=fun(v0,s9876)=>
 .nu p_e.bM aO.lf<|
 .iB (decide ((v0:Int)<(p_e.bM.length:Int))) (.gx aO.aS p_e.bM v0 fun x0 _=>
 .cH [0] (R_.ok1 x0 s9876) fun r0 _=>
 .rt [0,3,4] 2 (.inl (IntKind.wrap .i64 (v0+1),r0)))<|
 .ret ⟨[.kill 1],[],[],2⟩ (.inr (s9876))
def Sm(R_:adE)(p_e:aO)(v0:Int)(s9876:aI):Option (aI):=bP (fun v_=>(xI R_ p_e v_).den) FU (v0,s9876)
def adF(R_:adE)(p_e:aO)(p_b0:aI):Mo (aI):=
 .cH [0] (gY p_e.fOp p_b0) fun r0 _=>
 .cH [0] (Dt p_e.cZ r0) fun r1 _=>
 .cH [0] (oI p_e.fName r1) fun r2 _=>
 .cH [0] (Dt p_e.eG r2) fun r3 _=>
 .cH [0] (vJ p_e.fArg r3) fun r4 _=>
 .ask (Q6 p_e.fN r4) fun r5 h0=>
 .say [.fZ [0] (.tup []) [dQ r5],.num p_e.bM.length] (okc (gY _ _ _ h0) (ok1 (ln_ p_e.bM aO.lf)))<|
 .cH [0] (gY (p_e.bM.length:Int) r5) fun r6 _=>
 .l1m [] Tryz.f282 1 [1,1,1,1,1,1,1,1,1,0] 0 (.exit 0) (fun(v0,s9876)=>⟨[(0,.ptr 0 0),(3,.ptr 1 0),(4,.i_ v0)],[dQ s9876,eP p_e]⟩) (fun r_=>⟨[],[dQ r_,.dead]⟩) (Sm R_ p_e 0 r6) (xI R_ p_e) (0,r6) fun r7=>
 .rt [] 1 (r7)
theorem ahS(R_:adE):Kq fun p_e p_b0=>Mo.den (adF R_ p_e p_b0):=fun _ _=>dX Tryz.func282
def rY:Nat→adE
 |0=>{ m1:=fun p_e p_b0=>none,ok1:=fun _ _ _ h=>(by cases h) }
 |n_+1=>{ m1:=fun p_e p_b0=>Mo.den (adF (rY n_) p_e p_b0),ok1:=ahS (rY n_) }
def Q45(p_e:aO)(p_b0:aI):Option (aI):=(rY FU).m1 p_e p_b0
theorem alO:Kq Q45:=(rY FU).ok1
abbrev Kr(m:aN→aI→Option (aI)):Prop:=∀p_p p_b0,FH (m p_p p_b0) 221 [.ptr 0 0,.dat (aN.lf1 p_p)] [dQ p_b0] (fun _=>.tup []) (fun r=>[dQ r])
structure adG where
 m1:(p_p:aN)→(p_b0:aI)→Option (aI)
 ok1:Kr m1
def xJ(R_:adG)(p_p:aN):(Int×aI)→Mo ((Int×aI)⊕(aI)):=fun(v0,s9909)=>
 .nu p_p.bM aN.lf<|
 .iB (decide ((v0:Int)<(p_p.bM.length:Int))) (.gx aN.aS p_p.bM v0 fun x0 _=>
 .cH [0] (R_.ok1 x0 s9909) fun r0 _=>
 .rt [0,3,4] 2 (.inl (IntKind.wrap .i64 (v0+1),r0)))<|
 .ret ⟨[.kill 1],[],[],2⟩ (.inr (s9909))
def Sr(R_:adG)(p_p:aN)(v0:Int)(s9909:aI):Option (aI):=bP (fun v_=>(xJ R_ p_p v_).den) FU (v0,s9909)
def adH(R_:adG)(p_p:aN)(p_b0:aI):Mo (aI):=
 .cH [0] (gY p_p.fOp p_b0) fun r0 _=>
 .cH [0] (Dt p_p.cZ r0) fun r1 _=>
 .cH [0] (vJ p_p.fArg r1) fun r2 _=>
 .cH [0] (adD p_p.fArgs r2) fun r3 _=>
 .cH [0] (gY p_p.fN r3) fun r4 _=>
 .cH [0] (gY p_p.fM r4) fun r5 _=>
 .cH [0] (alN p_p.dO r5) fun r6 _=>
 .ask (Q45 p_p.fExpr r6) fun r7 h0=>
 .say [.fZ [0] (.tup []) [dQ r7],.num p_p.bM.length] (okc (alO _ _ _ h0) (ok1 (ln_ p_p.bM aN.lf)))<|
 .cH [0] (gY (p_p.bM.length:Int) r7) fun r8 _=>
 .l1m [] Tryz.f221 1 [1,1,1,1,1,1,1,1,1,1,1,0] 0 (.exit 0) (fun(v0,s9909)=>⟨[(0,.ptr 0 0),(3,.ptr 1 0),(4,.i_ v0)],[dQ s9909,dP p_p]⟩) (fun r_=>⟨[],[dQ r_,.dead]⟩) (Sr R_ p_p 0 r8) (xJ R_ p_p) (0,r8) fun r9=>
 .rt [] 1 (r9)
theorem ahT(R_:adG):Kr fun p_p p_b0=>Mo.den (adH R_ p_p p_b0):=fun _ _=>dX Tryz.func221
def rZ:Nat→adG
 |0=>{ m1:=fun p_p p_b0=>none,ok1:=fun _ _ _ h=>(by cases h) }
 |n_+1=>{ m1:=fun p_p p_b0=>Mo.den (adH (rZ n_) p_p p_b0),ok1:=ahT (rZ n_) }
def Q53(p_p:aN)(p_b0:aI):Option (aI):=(rZ FU).m1 p_p p_b0
theorem alP:Kr Q53:=(rZ FU).ok1
def xK(p_x:aQ):(Int×aI)→Mo ((Int×aI)⊕(aI)):=fun(v0,s9707)=>
 .nu p_x.fJ bn.lf<|
 .iB (decide ((v0:Int)<(p_x.fJ.length:Int))) (.gx bn.aS p_x.fJ v0 fun x0 _=>
 .cH [0] (Dt x0.cZ s9707) fun r0 _=>
 .gx bn.aS p_x.fJ v0 fun x1 _=>
 .cH [0] (qG x1.FY r0) fun r1 _=>
 .rt [0,3,4] 2 (.inl (IntKind.wrap .i64 (v0+1),r1)))<|
 .rt [0,3] 2 (.inr (s9707))
def Sv(p_x:aQ)(v0:Int)(s9707:aI):Option (aI):=bP (fun v_=>(xK p_x v_).den) FU (v0,s9707)
def ajs(p_x:aQ)(p_b0:aI):Mo (aI):=
 .cH [0] (oI p_x.fName p_b0) fun r0 _=>
 .ask (Q6 p_x.au r0) fun r1 h0=>
 .say [.fZ [0] (.tup []) [dQ r1],.num p_x.fJ.length] (okc (gY _ _ _ h0) (ok1 (ln_ p_x.fJ bn.lf)))<|
 .cH [0] (gY (p_x.fJ.length:Int) r1) fun r2 _=>
 .l1m [] Tryz.f142 1 [1,1,1,1,0,1,0] 0 (.exit 0) (fun(v0,s9707)=>⟨[(0,.ptr 0 0),(3,.ptr 1 0),(4,.i_ v0)],[dQ s9707,kQ p_x]⟩) (fun r_=>⟨[(0,.ptr 0 0),(3,.ptr 1 0)],[dQ r_,kQ p_x]⟩) (Sv p_x 0 r2) (xK p_x) (0,r2) fun r3=>
 .cH [0] (qG p_x.fF r3) fun r4 _=>
 .cH [0] (qG p_x.jh r4) fun r5 _=>
 .cH [0] (qG p_x.iF r5) fun r6 _=>
 .cH [0] (alP p_x.bF r6) fun r7 _=>
 .ret ⟨[.kill 1],[],[],1⟩ (r7)
def Q35(p_x:aQ)(p_b0:aI):Option (aI):=Mo.den (ajs p_x p_b0)
theorem Kt(p_x:aQ)(p_b0:aI):FH (Q35 p_x p_b0) 142 [.ptr 0 0,.dat (aQ.lf1 p_x)] [dQ p_b0] (fun _=>.tup []) (fun r=>[dQ r]):=dX Tryz.func142
abbrev Ku(m:aH→aI→Option (aI)):Prop:=∀p_s p_b0,FH (m p_s p_b0) 219 [.ptr 0 0,.dat (aH.lf1 p_s)] [dQ p_b0] (fun _=>.tup []) (fun r=>[dQ r])
structure Sz where
 m1:(p_s:aH)→(p_b0:aI)→Option (aI)
 ok1:Ku m1
def xM(R_:Sz)(p_s:aH):(Int×aI)→Mo ((Int×aI)⊕(aI)):=fun(v0,s10046)=>
 .nu p_s.dR bD.lf<|
 .iB (decide ((v0:Int)<(p_s.dR.length:Int))) (.gx bD.aS p_s.dR v0 fun x0 _=>
 .cH [0] (oI x0.fName s10046) fun r0 _=>
 .gx bD.aS p_s.dR v0 fun x1 _=>
 .cH [0] (R_.ok1 x1.bC r0) fun r1 _=>
 .rt [0,3,4] 2 (.inl (IntKind.wrap .i64 (v0+1),r1)))<|
 .rt [0,3] 2 (.inr (s10046))
def SA(R_:Sz)(p_s:aH)(v0:Int)(s10046:aI):Option (aI):=bP (fun v_=>(xM R_ p_s v_).den) FU (v0,s10046)
def xO(R_:Sz)(p_s:aH):(Int×aI)→Mo ((Int×aI)⊕(aI)):=fun(v0,s10097)=>
 .nu p_s.fB aH.lf<|
 .iB (decide ((v0:Int)<(p_s.fB.length:Int))) (.gx aH.aS p_s.fB v0 fun x0 _=>
 .cH [0] (R_.ok1 x0 s10097) fun r0 _=>
 .rt [0,3,5] 2 (.inl (IntKind.wrap .i64 (v0+1),r0)))<|
 .rt [0,3] 2 (.inr (s10097))
def SB(R_:Sz)(p_s:aH)(v0:Int)(s10097:aI):Option (aI):=bP (fun v_=>(xO R_ p_s v_).den) FU (v0,s10097)
def adI(R_:Sz)(p_s:aH)(p_b0:aI):Mo (aI):=
 .cH [0] (gY p_s.ji p_b0) fun r0 _=>
 .cH [0] (qG p_s.jl r0) fun r1 _=>
 .cH [0] (vJ p_s.jK r1) fun r2 _=>
 .cH [0] (qG p_s.jm r2) fun r3 _=>
 .cH [0] (vJ p_s.jL r3) fun r4 _=>
 .cH [0] (adD p_s.jS r4) fun r5 _=>
 .cH [0] (gY p_s.jo r5) fun r6 _=>
 .cH [0] (gY p_s.jq r6) fun r7 _=>
 .ask (Q34 p_s.eY r7) fun r8 h0=>
 .say [.fZ [0] (.tup []) [dQ r8],.num p_s.dR.length] (okc (Dt _ _ _ h0) (ok1 (ln_ p_s.dR bD.lf)))<|
 .cH [0] (gY (p_s.dR.length:Int) r8) fun r9 _=>
 .l1m [] Tryz.f219 1 [1,1,1,1,1,1,1,1,1,1,1,0,1,0] 0 (.exit 0) (fun(v0,s10046)=>⟨[(0,.ptr 0 0),(3,.ptr 1 0),(4,.i_ v0)],[dQ s10046,iy p_s]⟩) (fun r_=>⟨[(0,.ptr 0 0),(3,.ptr 1 0)],[dQ r_,iy p_s]⟩) (SA R_ p_s 0 r9) (xM R_ p_s) (0,r9) fun r10=>
 .ask (Q59 p_s.jQ r10) fun r11 h1=>
 .say [.fZ [0] (.tup []) [dQ r11],.num p_s.fB.length] (okc (qG _ _ _ h1) (ok1 (ln_ p_s.fB aH.lf)))<|
 .cH [0] (gY (p_s.fB.length:Int) r11) fun r12 _=>
 .l1m [] Tryz.f219 1 [1,1,1,1,1,1,1,1,1,1,1,1,1,1,0,1,0] 0 (.exit 2) (fun(v1,s10097)=>⟨[(0,.ptr 0 0),(3,.ptr 1 0),(5,.i_ v1)],[dQ s10097,iy p_s]⟩) (fun r_=>⟨[(0,.ptr 0 0),(3,.ptr 1 0)],[dQ r_,iy p_s]⟩) (SB R_ p_s 0 r12) (xO R_ p_s) (0,r12) fun r13=>
 .cH [0] (qG p_s.fF r13) fun r14 _=>
 .ret ⟨[.kill 1],[],[],1⟩ (r14)
theorem ahU(R_:Sz):Ku fun p_s p_b0=>Mo.den (adI R_ p_s p_b0):=fun _ _=>dX Tryz.func219
def oJ:Nat→Sz
 |0=>{ m1:=fun p_s p_b0=>none,ok1:=fun _ _ _ h=>(by cases h) }
 |n_+1=>{ m1:=fun p_s p_b0=>Mo.den (adI (oJ n_) p_s p_b0),ok1:=ahU (oJ n_) }
def Q19(p_s:aH)(p_b0:aI):Option (aI):=(oJ FU).m1 p_s p_b0
theorem alQ:Ku Q19:=(oJ FU).ok1
def xP(p_d:bU):(Int×aI)→Mo ((Int×aI)⊕(aI)):=fun(v0,s9947)=>
 .nu p_d.dw aQ.lf<|
 .iB (decide ((v0:Int)<(p_d.dw.length:Int))) (.gx aQ.aS p_d.dw v0 fun x0 _=>
 .cH [0] (Kt x0 s9947) fun r0 _=>
 .rt [0,3,4] 2 (.inl (IntKind.wrap .i64 (v0+1),r0)))<|
 .rt [0,3] 2 (.inr (s9947))
def SC(p_d:bU)(v0:Int)(s9947:aI):Option (aI):=bP (fun v_=>(xP p_d v_).den) FU (v0,s9947)
def ajt(p_d:bU)(p_b0:aI):Mo (aI):=
 .ask (Q50 p_d.fName p_b0) fun r0 h0=>
 .say [.fZ [0] (.tup []) [dQ r0],.num p_d.dw.length] (okc (oI _ _ _ h0) (ok1 (ln_ p_d.dw aQ.lf)))<|
 .cH [0] (gY (p_d.dw.length:Int) r0) fun r1 _=>
 .l1m [] Tryz.f141 1 [1,1,1,0,1,0] 0 (.exit 0) (fun(v0,s9947)=>⟨[(0,.ptr 0 0),(3,.ptr 1 0),(4,.i_ v0)],[dQ s9947,qQ p_d]⟩) (fun r_=>⟨[(0,.ptr 0 0),(3,.ptr 1 0)],[dQ r_,qQ p_d]⟩) (SC p_d 0 r1) (xP p_d) (0,r1) fun r2=>
 .cH [0] (alQ p_d.bC r2) fun r3 _=>
 .cH [0] (gY p_d.ku r3) fun r4 _=>
 .cH [0] (gY p_d.jr r4) fun r5 _=>
 .ret ⟨[.kill 1],[],[],1⟩ (r5)
def Q42(p_d:bU)(p_b0:aI):Option (aI):=Mo.den (ajt p_d p_b0)
theorem SE(p_d:bU)(p_b0:aI):FH (Q42 p_d p_b0) 141 [.ptr 0 0,.dat (bU.lf1 p_d)] [dQ p_b0] (fun _=>.tup []) (fun r=>[dQ r]):=dX Tryz.func141
abbrev Kv(m:ak→aI→Option (aI)):Prop:=∀p_x p_b0,FH (m p_x p_b0) 85 [.ptr 0 0,.dat (ak.lf1 p_x)] [dQ p_b0] (fun _=>.tup []) (fun r=>[dQ r])
structure SG where
 m1:(p_x:ak)→(p_b0:aI)→Option (aI)
 ok1:Kv m1
def xQ(R_:SG)(p_x:ak):(Int×aI)→Mo ((Int×aI)⊕(aI)):=fun(v0,s10168)=>
 .nu p_x.aY ak.lf<|
 .iB (decide ((v0:Int)<(p_x.aY.length:Int))) (.gx ak.aS p_x.aY v0 fun x0 _=>
 .cH [0] (R_.ok1 x0 s10168) fun r0 _=>
 .rt [0,3,4] 2 (.inl (IntKind.wrap .i64 (v0+1),r0)))<|
 .rt [0,3] 2 (.inr (s10168))
def SH(R_:SG)(p_x:ak)(v0:Int)(s10168:aI):Option (aI):=bP (fun v_=>(xQ R_ p_x v_).den) FU (v0,s10168)
def xR(R_:SG)(p_x:ak):(Int×aI)→Mo ((Int×aI)⊕(aI)):=fun(v0,s10211)=>
 .nu p_x.dK lfI<|
 .iB (decide ((v0:Int)<(p_x.dK.length:Int))) (.gx lI_ p_x.dK v0 fun x0 _=>
 .cH [0] (gY x0 s10211) fun r0 _=>
 .rt [0,3,5] 2 (.inl (IntKind.wrap .i64 (v0+1),r0)))<|
 .rt [0,3] 2 (.inr (s10211))
def SI(R_:SG)(p_x:ak)(v0:Int)(s10211:aI):Option (aI):=bP (fun v_=>(xR R_ p_x v_).den) FU (v0,s10211)
def adJ(R_:SG)(p_x:ak)(p_b0:aI):Mo (aI):=
 .cH [0] (gY p_x.au p_b0) fun r0 _=>
 .cH [0] (oI p_x.fC r0) fun r1 _=>
 .cH [0] (vJ p_x.fO r1) fun r2 _=>
 .cH [0] (vJ p_x.aT r2) fun r3 _=>
 .cH [0] (vJ p_x.dG r3) fun r4 _=>
 .cH [0] (SE p_x.dh r4) fun r5 _=>
 .cH [0] (Kt p_x.bf r5) fun r6 _=>
 .cH [0] (oI p_x.nN r6) fun r7 _=>
 .ask (Q6 p_x.eU r7) fun r8 h0=>
 .say [.fZ [0] (.tup []) [dQ r8],.num p_x.aY.length] (okc (gY _ _ _ h0) (ok1 (ln_ p_x.aY ak.lf)))<|
 .cH [0] (gY (p_x.aY.length:Int) r8) fun r9 _=>
 .l1m [] Tryz.f85 1 [1,1,1,1,1,1,1,1,1,1,1,0,1,0] 0 (.exit 0) (fun(v0,s10168)=>⟨[(0,.ptr 0 0),(3,.ptr 1 0),(4,.i_ v0)],[dQ s10168,cu p_x]⟩) (fun r_=>⟨[(0,.ptr 0 0),(3,.ptr 1 0)],[dQ r_,cu p_x]⟩) (SH R_ p_x 0 r9) (xQ R_ p_x) (0,r9) fun r10=>
 .nu p_x.dK lfI<|
 .cH [0] (gY (p_x.dK.length:Int) r10) fun r11 _=>
 .l1m [] Tryz.f85 1 [1,1,1,1,1,1,1,1,1,1,1,1,1,0,1,0] 0 (.exit 2) (fun(v1,s10211)=>⟨[(0,.ptr 0 0),(3,.ptr 1 0),(5,.i_ v1)],[dQ s10211,cu p_x]⟩) (fun r_=>⟨[(0,.ptr 0 0),(3,.ptr 1 0)],[dQ r_,cu p_x]⟩) (SI R_ p_x 0 r11) (xR R_ p_x) (0,r11) fun r12=>
 .cH [0] (qG p_x.iQ r12) fun r13 _=>
 .ret ⟨[.kill 1],[],[],1⟩ (r13)
theorem ahV(R_:SG):Kv fun p_x p_b0=>Mo.den (adJ R_ p_x p_b0):=fun _ _=>dX Tryz.func85
def qH:Nat→SG
 |0=>{ m1:=fun p_x p_b0=>none,ok1:=fun _ _ _ h=>(by cases h) }
 |n_+1=>{ m1:=fun p_x p_b0=>Mo.den (adJ (qH n_) p_x p_b0),ok1:=ahV (qH n_) }
def Q21(p_x:ak)(p_b0:aI):Option (aI):=(qH FU).m1 p_x p_b0
theorem alR:Kv Q21:=(qH FU).ok1
def adK(p_e:bG)(p_b0:aI):Mo (aI):=
 .cH [0] (gY p_e.rD p_b0) fun r0 _=>
 .cH [0] (gY p_e.eU r0) fun r1 _=>
 .cH [0] (oI p_e.jV r1) fun r2 _=>
 .cH [0] (gY p_e.ql r2) fun r3 _=>
 .cH [0] (alR p_e.dA r3) fun r4 _=>
 .ret ⟨[.kill 1],[],[],1⟩ (r4)
def alS(p_e:bG)(p_b0:aI):Option (aI):=Mo.den (adK p_e p_b0)
theorem ahW(p_e:bG)(p_b0:aI):FH (alS p_e p_b0) 37 [.ptr 0 0,.dat (bG.lf1 p_e)] [dQ p_b0] (fun _=>.tup []) (fun r=>[dQ r]):=dX Tryz.func37
def adL(p_e:bG):Mo (ByteArray):=
 .say [.at_ 6 1,.norm 1] ok0<|
 .cH [1] (ahW p_e (aI.mk ⟨#[]⟩ false true)) fun r0 _=>
 .ret (aX 1) (r0.fS)
def adM(p_e:bG):Option (ByteArray):=Mo.den (adL p_e)
theorem Vx(p_e:bG):FV (adM p_e) 44 [.dat (bG.lf1 p_e)] (fun r=>.lf (.str r)):=bW Tryz.func44
def adN(p_a:bG)(p_b:bG):Mo (Bool):=
 .ask (adM p_a) fun r0 h0=>
 .say [] (ok1 (Vx _ _ h0))<|
 .ask (adM p_b) fun r1 h1=>
 .say [.iD (.q 0 (.q 2 (.l 1 (.l 3 (.q 4 (.q 5 .fin)))))) (some 3) [] [.res (.lf (.str r0)),.res (.lf (.str r1))] [4] 2 [(4,.lf (.bool (decide ((r0:ByteArray)=(r1:ByteArray)))))] [jB p_a,jB p_b]] (okc (Vx _ _ h1) (ok1 (rf_ ⟨[(4,.lf (.bool (decide ((r0:ByteArray)=(r1:ByteArray)))))],[jB p_a,jB p_b]⟩)))<|
 .ret (aX 1) (decide ((r0:ByteArray)=(r1:ByteArray)))
def anQ(p_a:bG)(p_b:bG):Option (Bool):=Mo.den (adN p_a p_b)
theorem Vy(p_a:bG)(p_b:bG):FV (anQ p_a p_b) 18 [.dat (bG.lf1 p_a),.dat (bG.lf1 p_b)] .b_:=bW Tryz.func18
abbrev Kw(m:ah→Option (ah)):Prop:=∀p_v,FV (m p_v) 101 [.dat (ah.lf1 p_v)] (fun r=>.dat (ah.lf1 r))
abbrev Ky(m:(List ah)→Option (List ah)):Prop:=∀p_l,FH (m p_l) 154 [.lf (.rows 5 (p_l.map ah.lf)),.raw (.func (.func 101) #[] #[])] [] (fun r=>.lf (.rows 5 (r.map ah.lf))) (fun _=>[])
abbrev Vz(m:(List ay)→Option (List ay)):Prop:=∀p_l,FH (m p_l) 155 [.lf (.rows 6 (p_l.map ay.lf)),.raw (.func (.func 156) #[] #[])] [] (fun r=>.lf (.rows 6 (r.map ay.lf))) (fun _=>[])
abbrev VA(m:ay→Option (ay)):Prop:=∀p_f,FV (m p_f) 156 [.dat (ay.lf1 p_f)] (fun r=>.dat (ay.lf1 r))
structure zC where
 m1:(p_v:ah)→Option (ah)
 ok1:Kw m1
 m2:(p_l:List ah)→Option (List ah)
 ok2:Ky m2
 m3:(p_l:List ay)→Option (List ay)
 ok3:Vz m3
 m4:(p_f:ay)→Option (ay)
 ok4:VA m4
def SK(R_:zC)(p_v:ah):Mo (ah):=
 .cH [] (R_.ok2 p_v.aU) fun r0 _=>
 .cH [] (R_.ok3 p_v.aT) fun r1 _=>
 .ret (aX 1) (ah.mk p_v.au p_v.dD p_v.fText r0 r1)
theorem adO(R_:zC):Kw fun p_v=>Mo.den (SK R_ p_v):=fun _=>bW Tryz.func101
def Du(R_:zC)(p_l:List ah):(Int×(List ah))→Mo ((Int×(List ah))⊕((List ah))):=fun(v0,l0)=>
 .iB (decide ((v0:Int)<(p_l.length:Int))) (.gx ah.aS p_l v0 fun x0 _=>
 .cl (R_.ok1 x0) fun r0 _=>
 .ask (ig l0 v0) fun x1 h0=>
 .say [.row (ah.lf1 x1),.rows ((l0.set v0.toNat r0).map ah.lf)] (okc (iV ah.aS h0) (okc (st_ ah.aS l0 v0.toNat r0) (ok1 ((dS ah.aS h0).2))))<|
 .rt [1,5,14,15,16] 1 (.inl (IntKind.wrap .i64 (v0+1),l0.set v0.toNat r0)))<|
 .rt [5] 1 (.inr (l0))
def adP(R_:zC)(p_l:List ah)(v0:Int)(l0:List ah):Option (((List ah))):=bP (fun v_=>(Du R_ p_l v_).den) FU (v0,l0)
def adQ(R_:zC)(p_l:List ah):Mo (List ah):=
 .nu p_l ah.lf<|
 .iB ((p_l.length:Int)==0) (.ret ⟨[.nil 0 5,.tod 0],[0],[],0⟩ ([]))<|
 .say [.num p_l.length,.rows ((List.replicate (p_l.length:Int).toNat (ah.mk 0 0 ⟨#[]⟩ [] [])).map ah.lf),.num p_l.length] (okc (ln_ p_l ah.lf) (ok1 (rp_ ah.aS (p_l.length:Int).toNat (ah.mk 0 0 ⟨#[]⟩ [] []))))<|
 .grd ((0:Int)≤(p_l.length:Int)∧80*(p_l.length:Int).toNat≤281474976710656∧(p_l.length:Int).toNat≤maxLen) fun h0=>
 .say [] (okc (mk_ (p_l.length:Int) h0) (ok1 (ln_ p_l ah.lf)))<|
 .l1m [] Tryz.f154 0 [1,1,1,0,1,0] 0 (.exit 0) (fun(v0,l0)=>⟨[(1,.raw (.func (.func 101) #[] #[])),(5,.own 0),(14,.lf (.rows 5 (p_l.map ah.lf))),(15,.i_ (p_l.length:Int)),(16,.i_ v0)],[.row 25 5 (l0.map ah.lf)]⟩) (fun r_=>⟨[(5,.own 0)],[.row 25 5 (r_.map ah.lf)]⟩) (adP R_ p_l 0 (List.replicate (p_l.length:Int).toNat (ah.mk 0 0 ⟨#[]⟩ [] []))) (Du R_ p_l) (0,(List.replicate (p_l.length:Int).toNat (ah.mk 0 0 ⟨#[]⟩ [] []))) fun r0=>
 .ret ⟨[.frz 0],[0],[],0⟩ (r0)
theorem ahX(R_:zC):Ky fun p_l=>Mo.den (adQ R_ p_l):=fun _=>dX Tryz.func154
def Dv(R_:zC)(p_l:List ay):(Int×(List ay))→Mo ((Int×(List ay))⊕((List ay))):=fun(v0,l0)=>
 .iB (decide ((v0:Int)<(p_l.length:Int))) (.gx ay.aS p_l v0 fun x0 _=>
 .cl (R_.ok4 x0) fun r0 _=>
 .ask (ig l0 v0) fun x1 h0=>
 .say [.row (ay.lf1 x1),.rows ((l0.set v0.toNat r0).map ay.lf)] (okc (iV ay.aS h0) (okc (st_ ay.aS l0 v0.toNat r0) (ok1 ((dS ay.aS h0).2))))<|
 .rt [1,5,14,15,16] 1 (.inl (IntKind.wrap .i64 (v0+1),l0.set v0.toNat r0)))<|
 .rt [5] 1 (.inr (l0))
def adR(R_:zC)(p_l:List ay)(v0:Int)(l0:List ay):Option (((List ay))):=bP (fun v_=>(Dv R_ p_l v_).den) FU (v0,l0)
def adS(R_:zC)(p_l:List ay):Mo (List ay):=
 .nu p_l ay.lf<|
 .iB ((p_l.length:Int)==0) (.ret ⟨[.nil 0 6,.tod 0],[0],[],0⟩ ([]))<|
 .say [.num p_l.length,.rows ((List.replicate (p_l.length:Int).toNat (ay.mk ⟨#[]⟩ (ah.mk 0 0 ⟨#[]⟩ [] []))).map ay.lf),.num p_l.length] (okc (ln_ p_l ay.lf) (ok1 (rp_ ay.aS (p_l.length:Int).toNat (ay.mk ⟨#[]⟩ (ah.mk 0 0 ⟨#[]⟩ [] [])))))<|
 .grd ((0:Int)≤(p_l.length:Int)∧96*(p_l.length:Int).toNat≤281474976710656∧(p_l.length:Int).toNat≤maxLen) fun h0=>
 .say [] (okc (mk_ (p_l.length:Int) h0) (ok1 (ln_ p_l ay.lf)))<|
 .l1m [] Tryz.f155 0 [1,1,1,0,1,0] 0 (.exit 0) (fun(v0,l0)=>⟨[(1,.raw (.func (.func 156) #[] #[])),(5,.own 0),(14,.lf (.rows 6 (p_l.map ay.lf))),(15,.i_ (p_l.length:Int)),(16,.i_ v0)],[.row 115 6 (l0.map ay.lf)]⟩) (fun r_=>⟨[(5,.own 0)],[.row 115 6 (r_.map ay.lf)]⟩) (adR R_ p_l 0 (List.replicate (p_l.length:Int).toNat (ay.mk ⟨#[]⟩ (ah.mk 0 0 ⟨#[]⟩ [] [])))) (Dv R_ p_l) (0,(List.replicate (p_l.length:Int).toNat (ay.mk ⟨#[]⟩ (ah.mk 0 0 ⟨#[]⟩ [] [])))) fun r0=>
 .ret ⟨[.frz 0],[0],[],0⟩ (r0)
theorem ahY(R_:zC):Vz fun p_l=>Mo.den (adS R_ p_l):=fun _=>dX Tryz.func155
def SL(R_:zC)(p_f:ay):Mo (ay):=
 .say [.order [(true,0),(true,1),(true,2),(true,3),(false,4),(true,5),(false,6)] (some 6) []] ok0<|
 .cl (R_.ok1 p_f.fValue) fun r0 _=>
 .ret (aX 1) (ay.mk p_f.fName r0)
theorem adT(R_:zC):VA fun p_f=>Mo.den (SL R_ p_f):=fun _=>bW Tryz.func156
def iJ:Nat→zC
 |0=>{ m1:=fun p_v=>none,ok1:=fun _ _ h=>(by cases h),m2:=fun p_l=>none,ok2:=fun _ _ h=>(by cases h),m3:=fun p_l=>none,ok3:=fun _ _ h=>(by cases h),m4:=fun p_f=>none,ok4:=fun _ _ h=>(by cases h) }
 |n_+1=>{ m1:=fun p_v=>Mo.den (SK (iJ n_) p_v),ok1:=adO (iJ n_),m2:=fun p_l=>Mo.den (adQ (iJ n_) p_l),ok2:=ahX (iJ n_),m3:=fun p_l=>Mo.den (adS (iJ n_) p_l),ok3:=ahY (iJ n_),m4:=fun p_f=>Mo.den (SL (iJ n_) p_f),ok4:=adT (iJ n_) }
def anR(p_v:ah):Option (ah):=(iJ FU).m1 p_v
theorem qI:Kw anR:=(iJ FU).ok1
def Q47(p_l:List ah):Option (List ah):=(iJ FU).m2 p_l
theorem adU:Ky Q47:=(iJ FU).ok2
def adV(p_l:List ByteArray):Mo (List ByteArray):=
 .say [.rows (p_l.map lfS),.at_ 0 0,.frz 0] (ok1 (by simp[lfS]:p_l.map lfS=[]++(p_l.map lfS)))<|
 .grd ((([]:List ByteArray).length+p_l.length)*16≤140737488355328) fun h0=>
 .say [] (ok1 (cq_ lfS h0))<|
 .ret (aX 1) (p_l)
def alT(p_l:List ByteArray):Option (List ByteArray):=Mo.den (adV p_l)
theorem xU(p_l:List ByteArray):FV (alT p_l) 238 [.lf (.rows 1 (p_l.map lfS))] (fun r=>.lf (.rows 1 (r.map lfS))):=bW Tryz.func238
def adW(p_o:bn):Mo (bn):=
 .cl (xU p_o.cZ) fun r0 _=>
 .ret (aX 1) (bn.mk r0 p_o.FY)
def ahZ(p_o:bn):Option (bn):=Mo.den (adW p_o)
theorem ah0(p_o:bn):FV (ahZ p_o) 160 [.dat (bn.lf1 p_o)] (fun r=>.dat (bn.lf1 r)):=bW Tryz.func160
def Dw(p_l:List bn):(Int×(List bn))→Mo ((Int×(List bn))⊕((List bn))):=fun(v0,l0)=>
 .iB (decide ((v0:Int)<(p_l.length:Int))) (.gx bn.aS p_l v0 fun x0 _=>
 .cl (ah0 x0) fun r0 _=>
 .ask (ig l0 v0) fun x1 h0=>
 .say [.row (bn.lf1 x1),.rows ((l0.set v0.toNat r0).map bn.lf)] (okc (iV bn.aS h0) (okc (st_ bn.aS l0 v0.toNat r0) (ok1 ((dS bn.aS h0).2))))<|
 .rt [1,5,14,15,16] 1 (.inl (IntKind.wrap .i64 (v0+1),l0.set v0.toNat r0)))<|
 .rt [5] 1 (.inr (l0))
def adX(p_l:List bn)(v0:Int)(l0:List bn):Option (((List bn))):=bP (fun v_=>(Dw p_l v_).den) FU (v0,l0)
def aju(p_l:List bn):Mo (List bn):=
 .nu p_l bn.lf<|
 .iB ((p_l.length:Int)==0) (.say [] (ok1 (by simp[bn.aS]:(([]:List bn).map bn.lf)=[]))<|
 .ret ⟨[.mW 0 149 2,.je 0 (([]:List bn).map bn.lf),.mvn 0],[0],[(1,0)],1⟩ (([]:List bn)))<|
 .say [.num p_l.length,.rows ((List.replicate (p_l.length:Int).toNat (bn.mk [] false)).map bn.lf),.num p_l.length] (okc (ln_ p_l bn.lf) (ok1 (rp_ bn.aS (p_l.length:Int).toNat (bn.mk [] false))))<|
 .grd ((0:Int)≤(p_l.length:Int)∧32*(p_l.length:Int).toNat≤281474976710656∧(p_l.length:Int).toNat≤maxLen) fun h0=>
 .say [] (okc (mk_ (p_l.length:Int) h0) (ok1 (ln_ p_l bn.lf)))<|
 .l1m [] Tryz.f159 0 [1,1,1,0,1,0] 0 (.exit 0) (fun(v0,l0)=>⟨[(1,.raw (.func (.func 160) #[] #[])),(5,.own 0),(14,.lf (.rows 2 (p_l.map bn.lf))),(15,.i_ (p_l.length:Int)),(16,.i_ v0)],[.row 149 2 (l0.map bn.lf)]⟩) (fun r_=>⟨[(5,.own 0)],[.row 149 2 (r_.map bn.lf)]⟩) (adX p_l 0 (List.replicate (p_l.length:Int).toNat (bn.mk [] false))) (Dw p_l) (0,(List.replicate (p_l.length:Int).toNat (bn.mk [] false))) fun r0=>
 .ret ⟨[.mvn 0],[0],[(1,0)],1⟩ (r0)
def Q72(p_l:List bn):Option (List bn):=Mo.den (aju p_l)
theorem alU(p_l:List bn):FH (Q72 p_l) 159 [.lf (.rows 2 (p_l.map bn.lf)),.raw (.func (.func 160) #[] #[])] [] (fun _=>.own 0) (fun r=>[.row 149 2 (r.map bn.lf)]):=dX Tryz.func159
abbrev Kz(m:aO→Option (aO)):Prop:=∀p_e,FV (m p_e) 242 [.dat (aO.lf1 p_e)] (fun r=>.dat (aO.lf1 r))
abbrev VB(m:(List aO)→Option (List aO)):Prop:=∀p_l,FH (m p_l) 295 [.lf (.rows 11 (p_l.map aO.lf)),.raw (.func (.func 242) #[] #[])] [] (fun r=>.lf (.rows 11 (r.map aO.lf))) (fun _=>[])
structure SN where
 m1:(p_e:aO)→Option (aO)
 ok1:Kz m1
 m2:(p_l:List aO)→Option (List aO)
 ok2:VB m2
def SQ(R_:SN)(p_e:aO):Mo (aO):=
 .cl (xU p_e.cZ) fun r0 _=>
 .cl (xU p_e.eG) fun r1 _=>
 .cl (qI p_e.fArg) fun r2 _=>
 .cH [] (R_.ok2 p_e.bM) fun r3 _=>
 .ret (aX 1) (aO.mk p_e.fOp r0 p_e.fName r1 r2 p_e.fN r3)
theorem adY(R_:SN):Kz fun p_e=>Mo.den (SQ R_ p_e):=fun _=>bW Tryz.func242
def Dx(R_:SN)(p_l:List aO):(Int×(List aO))→Mo ((Int×(List aO))⊕((List aO))):=fun(v0,l0)=>
 .iB (decide ((v0:Int)<(p_l.length:Int))) (.gx aO.aS p_l v0 fun x0 _=>
 .cl (R_.ok1 x0) fun r0 _=>
 .ask (ig l0 v0) fun x1 h0=>
 .say [.row (aO.lf1 x1),.rows ((l0.set v0.toNat r0).map aO.lf)] (okc (iV aO.aS h0) (okc (st_ aO.aS l0 v0.toNat r0) (ok1 ((dS aO.aS h0).2))))<|
 .rt [1,5,14,15,16] 1 (.inl (IntKind.wrap .i64 (v0+1),l0.set v0.toNat r0)))<|
 .rt [5] 1 (.inr (l0))
def adZ(R_:SN)(p_l:List aO)(v0:Int)(l0:List aO):Option (((List aO))):=bP (fun v_=>(Dx R_ p_l v_).den) FU (v0,l0)
def ad1(R_:SN)(p_l:List aO):Mo (List aO):=
 .nu p_l aO.lf<|
 .iB ((p_l.length:Int)==0) (.ret ⟨[.nil 0 11,.tod 0],[0],[],0⟩ ([]))<|
 .say [.num p_l.length,.rows ((List.replicate (p_l.length:Int).toNat aO.z).map aO.lf),.num p_l.length] (okc (ln_ p_l aO.lf) (ok1 (rp_ aO.aS (p_l.length:Int).toNat aO.z)))<|
 .grd ((0:Int)≤(p_l.length:Int)∧184*(p_l.length:Int).toNat≤281474976710656∧(p_l.length:Int).toNat≤maxLen) fun h0=>
 .say [] (okc (mk_ (p_l.length:Int) h0) (ok1 (ln_ p_l aO.lf)))<|
 .l1m [] Tryz.f295 0 [1,1,1,0,1,0] 0 (.exit 0) (fun(v0,l0)=>⟨[(1,.raw (.func (.func 242) #[] #[])),(5,.own 0),(14,.lf (.rows 11 (p_l.map aO.lf))),(15,.i_ (p_l.length:Int)),(16,.i_ v0)],[.row 40 11 (l0.map aO.lf)]⟩) (fun r_=>⟨[(5,.own 0)],[.row 40 11 (r_.map aO.lf)]⟩) (adZ R_ p_l 0 (List.replicate (p_l.length:Int).toNat aO.z)) (Dx R_ p_l) (0,(List.replicate (p_l.length:Int).toNat aO.z)) fun r0=>
 .ret ⟨[.frz 0],[0],[],0⟩ (r0)
theorem ah1(R_:SN):VB fun p_l=>Mo.den (ad1 R_ p_l):=fun _=>dX Tryz.func295
def lV:Nat→SN
 |0=>{ m1:=fun p_e=>none,ok1:=fun _ _ h=>(by cases h),m2:=fun p_l=>none,ok2:=fun _ _ h=>(by cases h) }
 |n_+1=>{ m1:=fun p_e=>Mo.den (SQ (lV n_) p_e),ok1:=adY (lV n_),m2:=fun p_l=>Mo.den (ad1 (lV n_) p_l),ok2:=ah1 (lV n_) }
def anS(p_e:aO):Option (aO):=(lV FU).m1 p_e
theorem ah2:Kz anS:=(lV FU).ok1
end
end Go.Proofs.YtflpefkohpjjpaaGreatDoor
