/- Printed by dec.py. -/
import Derived.Test.YtflpefkohpjjpaaGreatDoorQX7
import Derived.Test.YtflpefkohpjjpaaGreatDoorQX4
import Derived.Test.YtflpefkohpjjpaaGreatDoorQXName
import Derived.Test.YtflpefkohpjjpaaGreatDoorQX3
import Derived.Test.YtflpefkohpjjpaaGreatDoorQXNumP
import Derived.Test.YtflpefkohpjjpaaGreatDoorQXR1b
set_option linter.unusedSimpArgs false
set_option linter.unusedVariables false
namespace Go.Proofs.YtflpefkohpjjpaaGreatDoor
open Go.RowKit
set_option maxRecDepth 20000
set_option maxHeartbeats 4000000
noncomputable section
def aa4(p_p:aO)(r0:Bool):Mo (Bool):=
 .aC 4009 (r0) [1,2,17] 1 (X7 p_p.fArg (ah.mk 0 0 ⟨#[]⟩ [] []))
def Ul(p_p:aO)(r0:Bool):Mo (Bool):=
 .iG 4015 (r0) (.nu p_p.fArgs ah.lf<|
 .rt [1,2,23] 1 ((p_p.fArgs.length:Int)==0))<|
 .rt [1,2,23] 1 (false)
def Um(p_p:aO)(r0:Bool):Mo (Bool):=
 .aV 4021 (r0) [1,2,28] 1 (p_p.fN==0)
def Un(p_p:aO)(r0:Bool):Mo (Bool):=
 .aV 4026 (r0) [1,2,33] 1 (p_p.fM==0)
def Uo(p_p:aO)(r0:Bool):Mo (Bool):=
 .aV 4031 (r0) [1,2,39] 1 (p_p.dI.aF==0)
def Ur(p_p:aO)(r0:Bool):Mo (Bool):=
 .iG 4037 (r0) (.nu p_p.dI.bG bU.lf<|
 .rt [1,2,46] 1 ((p_p.dI.bG.length:Int)==0))<|
 .rt [1,2,46] 1 (false)
def Us(p_p:aO)(r0:Bool):Mo (Bool):=
 .aV 4044 (r0) [1,2,52] 1 (p_p.dI.fR==0)
def Ut(p_p:aO)(r0:Bool):Mo (Bool):=
 .aC 4050 (r0) [1,2,58] 1 (avD p_p.fExpr aQ.z)
def Uu(p_p:aO)(r0:Bool):Mo (Bool):=
 .iG 4056 (r0) (.nu p_p.bC aO.lf<|
 .ret ⟨[.kill 0],[2,64],[],1⟩ ((p_p.bC.length:Int)==0))<|
 .ret ⟨[.kill 0],[2,64],[],1⟩ (false)
def asu(p_p:aO):Mo (Bool):=
 .sf Tryz.f130 0 [1,0] 0 9 1 [(1,.ptr 0 0),(2,.b_ false)] [dA p_p] 11 (uY p_p) fun r0=>
 .sb Tryz.f130 0 [1,0] 9 6 1 [(1,.ptr 0 0),(2,.b_ false)] [dA p_p] 11 17 r0 (aa4 p_p r0) fun r1=>
 .sb Tryz.f130 0 [1,0] 15 6 1 [(1,.ptr 0 0),(2,.b_ false)] [dA p_p] 17 23 r1 (Ul p_p r1) fun r2=>
 .sb Tryz.f130 0 [1,0] 21 5 1 [(1,.ptr 0 0),(2,.b_ false)] [dA p_p] 23 28 r2 (Um p_p r2) fun r3=>
 .sb Tryz.f130 0 [1,0] 26 5 1 [(1,.ptr 0 0),(2,.b_ false)] [dA p_p] 28 33 r3 (Un p_p r3) fun r4=>
 .sb Tryz.f130 0 [1,0] 31 6 1 [(1,.ptr 0 0),(2,.b_ false)] [dA p_p] 33 39 r4 (Uo p_p r4) fun r5=>
 .sb Tryz.f130 0 [1,0] 37 7 1 [(1,.ptr 0 0),(2,.b_ false)] [dA p_p] 39 46 r5 (Ur p_p r5) fun r6=>
 .sb Tryz.f130 0 [1,0] 44 6 1 [(1,.ptr 0 0),(2,.b_ false)] [dA p_p] 46 52 r6 (Us p_p r6) fun r7=>
 .sb Tryz.f130 0 [1,0] 50 6 1 [(1,.ptr 0 0),(2,.b_ false)] [dA p_p] 52 58 r7 (Ut p_p r7) fun r8=>
 .sk Tryz.f130 0 [1,0] 56 6 1 (fun r_=>⟨[(2,.b_ false),(64,.b_ r_)],[.dead]⟩) ⟨[(1,.ptr 0 0),(2,.b_ false),(58,.b_ r8)],[dA p_p]⟩ (Uu p_p r8) fun r9=>
 .sk Tryz.f130 0 [1,0] 62 1 1 (fun r_=>⟨[(2,.b_ r9)],[.dead]⟩) ⟨[(2,.b_ false),(64,.b_ r9)],[.dead]⟩ (dQ r9) fun r10=>
 .ret (aU 1) (r9)
def Q33(p_p:aO):Option (Bool):=Mo.den (asu p_p)
theorem avE(p_p:aO):FV (Q33 p_p) 130 [.dat (aO.lf1 p_p)] .b_:=dw Tryz.func130
def Uw(p_x:aS):Mo (Bool):=
 .oV 8003 (decide ((p_x.aF:Int)<1)) [1,15] 1 (decide ((3:Int)<p_x.aF))
def Ux(p_x:aS):Mo (Bool):=
 .nu p_x.fA aY.lf<|
 .iG 18004 ((p_x.fA.length:Int)==0) (.rt [1,47] 1 (true))<|
 .iG 18008 (p_x.aF != 1) (.nu p_x.fA aY.lf<|
 .iG 18013 (decide ((1:Int)<(p_x.fA.length:Int))) (.rt [1,47] 1 (true))<|
 .gx aY.aX p_x.fA 0 fun x0 _=>
 .oV 18020 (x0.xW) [1,47] 1 (p_x.fC))<|
 .rt [1,47] 1 (false)
def anp(p_x:aS):Mo (Int):=
 .cl (Dh p_x.fName) fun r0 _=>
 .iB (!r0) (.ret (aU 1) (9))<|
 .jk Tryz.f73 0 [1,1,0,0] 13 (fun r_=>⟨[(1,.ptr 0 0),(15,.b_ r_)],[nS p_x]⟩) ⟨[(1,.ptr 0 0)],[nS p_x]⟩ (Uw p_x) fun r1=>
 .iB (r1) (.ret (aU 1) (8))<|
 .cl (avl p_x.fA) fun r2 _=>
 .iB (r2 != 0) (.ret (aU 1) (r2))<|
 .jk Tryz.f73 0 [1,1,1,1,0,0] 23 (fun r_=>⟨[(1,.ptr 0 0),(47,.b_ r_)],[nS p_x]⟩) ⟨[(1,.ptr 0 0)],[nS p_x]⟩ (Ux p_x) fun r3=>
 .iB (r3) (.ret (aU 1) (11))<|
 .iB (p_x.iE) (.cl (aru p_x.bM) fun r4 _=>
 .ret (aU 1) (r4))<|
 .cl (avE p_x.bM) fun r5 _=>
 .iB (!r5) (.ret (aU 1) (4))<|
 .ret (aU 1) (0)
def avF(p_x:aS):Option (Int):=Mo.den (anp p_x)
theorem ag8(p_x:aS):FV (avF p_x) 73 [.dat (aS.lf1 p_x)] .i_:=dw Tryz.func73
def Bg(p_l:List aS)(p_name:ByteArray):(Int)→Mo ((Int)⊕(Int)⊕Unit):=fun(v0)=>
 .nu p_l aS.lf<|
 .iB (decide ((v0:Int)<(p_l.length:Int))) (.gx aS.aX p_l v0 fun x0 _=>
 .iB (decide ((x0.fName:ByteArray)=(p_name:ByteArray))) (.rt [4] 0 (.inr (.inl (v0))))<|
 .rt [0,1,5] 0 (.inl (IntKind.wrap .i64 (v0+1))))<|
 .rt [] 0 (.inr (.inr (())))
def Yb(p_l:List aS)(p_name:ByteArray)(v0:Int):Option ((Int)⊕Unit):=bV (fun v_=>(Bg p_l p_name v_).den) FU (v0)
def anq(p_l:List aS)(p_name:ByteArray):Mo (Int):=
 .l2m [] Tryz.f126 0 [1,0,1,0] 0 (fun(v0)=>⟨[(0,.lf (.rows 31 (p_l.map aS.lf))),(1,.lf (.str p_name)),(5,.i_ v0)],[]⟩) .ret (fun o_=>⟨[(4,.i_ o_)],[]⟩) (.exit 0) (fun _=>⟨[],[]⟩) (Yb p_l p_name 0) (Bg p_l p_name) (0) (fun o0=>
 .ret (aU 1) (o0)) fun o1=>
 .ret (aU 1) ((-1))
def avG(p_l:List aS)(p_name:ByteArray):Option (Int):=Mo.den (anq p_l p_name)
theorem arx(p_l:List aS)(p_name:ByteArray):FV (avG p_l p_name) 126 [.lf (.rows 31 (p_l.map aS.lf)),.lf (.str p_name)] .i_:=dw Tryz.func126
def ET(p_l:List ByteArray):(Int)→Mo ((Int)⊕(Unit⊕Unit)):=fun(v0)=>
 .nu p_l lfS<|
 .iB (decide ((v0:Int)<(p_l.length:Int))) (.gx lS_ p_l v0 fun x0 _=>
 .cl (Dh x0) fun r0 _=>
 .iB (!r0) (.rt [2] 0 (.inr (.inl ())))<|
 .l2m [] Tryz.f315 0 [1,0,1,0,0,1,0,0,1,1,0] 0 (fun(v1)=>⟨[(0,.lf (.rows 1 (p_l.map lfS))),(3,.i_ v0),(4,.i_ v1)],[]⟩) .ret (fun _=>⟨[(2,.b_ false)],[]⟩) (.exit 2) (fun _=>⟨[(0,.lf (.rows 1 (p_l.map lfS))),(3,.i_ v0)],[]⟩) (Io p_l v0 0) (rZ p_l v0) (0) (fun o0=>
 .rt [2] 0 (.inr (.inl ()))) fun o1=>
 .rt [0,3] 0 (.inl (IntKind.wrap .i64 (v0+1))))<|
 .rt [] 0 (.inr (.inr (())))
def avH(p_l:List ByteArray)(v0:Int):Option (Unit⊕Unit):=bV (fun v_=>(ET p_l v_).den) FU (v0)
def asv(p_l:List ByteArray):Mo (Bool):=
 .l2 Tryz.f315 0 [1,0,1,0] 0 (fun(v0)=>⟨[(0,.lf (.rows 1 (p_l.map lfS))),(3,.i_ v0)],[]⟩) .ret (fun _=>⟨[(2,.b_ false)],[]⟩) (.exit 0) (fun _=>⟨[],[]⟩) (ET p_l) (0) (fun o0=>
 .ret (aU 1) (false)) fun o1=>
 .ret (aU 1) (true)
def Q86(p_l:List ByteArray):Option (Bool):=Mo.den (asv p_l)
theorem anr(p_l:List ByteArray):FV (Q86 p_l) 315 [.lf (.rows 1 (p_l.map lfS))] .b_:=dw Tryz.func315
def Uy(p_has:Bool)(p_v:ah):Mo (Bool):=
 .iG 4001 (p_has) (.cl (tY p_v) fun r0 _=>
 .rt [0,3,4,10] 1 (!r0))<|
 .rt [0,3,4,10] 1 (false)
def Uz(p_has:Bool)(p_v:ah)(r0:Bool):Mo (Bool):=
 .iG 4006 (r0) (.ret ⟨[.kill 0],[4,20],[],1⟩ (true))<|
 .iG 4009 (!p_has) (.cl (X7 p_v (ah.mk 0 0 ⟨#[]⟩ [] [])) fun r1 _=>
 .ret ⟨[.kill 0],[4,20],[],1⟩ (!r1))<|
 .ret ⟨[.kill 0],[4,20],[],1⟩ (false)
def ant(p_has:Bool)(p_v:ah):Mo (Bool):=
 .sf Tryz.f316 0 [1,0] 0 6 1 [(0,.b_ p_has),(3,.ptr 0 0),(4,.b_ false)] [aZ p_v] 10 (Uy p_has p_v) fun r0=>
 .sk Tryz.f316 0 [1,0] 6 10 1 (fun r_=>⟨[(4,.b_ false),(20,.b_ r_)],[.dead]⟩) ⟨[(0,.b_ p_has),(3,.ptr 0 0),(4,.b_ false),(10,.b_ r0)],[aZ p_v]⟩ (Uz p_has p_v r0) fun r1=>
 .sk Tryz.f316 0 [1,0] 16 1 1 (fun r_=>⟨[(4,.b_ r1)],[.dead]⟩) ⟨[(4,.b_ false),(20,.b_ r1)],[.dead]⟩ (AU r1) fun r2=>
 .ret (aU 1) (r1)
def avI(p_has:Bool)(p_v:ah):Option (Bool):=Mo.den (ant p_has p_v)
theorem ag9(p_has:Bool)(p_v:ah):FV (avI p_has p_v) 316 [.b_ p_has,.dat (ah.lf1 p_v)] .b_:=dw Tryz.func316
def EU(p_s:aI):(Int×(List ByteArray))→Mo ((Int×(List ByteArray))⊕((List ByteArray))):=fun(v0,l0)=>
 .nu p_s.cZ bH.lf<|
 .iB (decide ((v0:Int)<(p_s.cZ.length:Int))) (.gx bH.aX p_s.cZ v0 fun x0 _=>
 .say [.rows ((l0++[x0.fName]).map lfS)] (ok1 (by simp[lfS]:(l0++[x0.fName]).map lfS=(l0.map lfS)++[(lfS x0.fName)]))<|
 .grd ((l0.length+[x0.fName].length)*16≤140737488355328) fun h0=>
 .say [] (ok1 (cp_ lfS h0))<|
 .ret ⟨[],[1,3,4],[(3,1)],2⟩ (.inl (IntKind.wrap .i64 (v0+1),l0++[x0.fName])))<|
 .rt [1,3] 2 (.inr (l0))
def aev(p_s:aI)(v0:Int)(l0:List ByteArray):Option (((List ByteArray))):=bV (fun v_=>(EU p_s v_).den) FU (v0,l0)
def aa5(p_s:aI)(r0:((List ByteArray))):Mo (Bool):=
 .cl (anr p_s.dW) fun r1 _=>
 .iG 14004 (!r1) (.ret ⟨[.kill 1],[1,30],[],2⟩ (true))<|
 .say [.at_ 14 6,.frz 1] ok0<|
 .cl (anr r0) fun r2 _=>
 .rt [1,30] 2 (!r2)
def UA(p_s:aI):Mo (Bool):=
 .iG 18003 (decide ((p_s.ig:Int)<0)) (.rt [1,39] 2 (true))<|
 .say [] (ok1 (by decide:(2:Int)≠0))<|
 .rt [1,39] 2 ((Int.tmod p_s.ig 2)==1)
def UC(p_s:aI)(r0:Bool):Mo (Bool):=
 .oV 18009 (r0) [1,44] 2 (decide ((4096:Int)≤p_s.ig))
def UD(p_s:aI)(r0:Bool):Mo (Bool):=
 .oV 18014 (r0) [1,49] 2 (decide ((p_s.jD:Int)<0))
def UE(p_s:aI)(r0:Bool):Mo (Bool):=
 .oV 18019 (r0) [1,54] 2 (decide ((p_s.jE:Int)<(-1)))
def UF(p_s:aI)(r0:Bool):Mo (Bool):=
 .iG 18024 (r0) (.rt [1,60] 2 (true))<|
 .nu p_s.dV aI.lf<|
 .rt [1,60] 2 (decide ((1:Int)<(p_s.dV.length:Int)))
def UG(p_s:aI):Mo (Bool):=
 .cl (ag9 p_s.iO p_s.kP) fun r0 _=>
 .iG 22005 (r0) (.rt [1,72] 2 (true))<|
 .cl (ag9 p_s.iP p_s.kQ) fun r1 _=>
 .rt [1,72] 2 (r1)
def Bh(p_s:aI):(Int)→Mo ((Int)⊕(Unit⊕Unit)):=fun(v0)=>
 .nu p_s.gZ ah.lf<|
 .iB (decide ((v0:Int)<(p_s.gZ.length:Int))) (.gx ah.aX p_s.gZ v0 fun x0 _=>
 .cl (tY x0) fun r0 _=>
 .iB (!r0) (.ret ⟨[.kill 0],[2],[],2⟩ (.inr (.inl ())))<|
 .rt [1,5] 2 (.inl (IntKind.wrap .i64 (v0+1))))<|
 .ret ⟨[.kill 0],[],[],2⟩ (.inr (.inr (())))
def Yc(p_s:aI)(v0:Int):Option (Unit⊕Unit):=bV (fun v_=>(Bh p_s v_).den) FU (v0)
def asw(p_s:aI):Mo (Int):=
 .say [] (ok1 (by simp[lfS]:(([]:List ByteArray).map lfS)=[]))<|
 .l1m [.uw 3 9 1,.mF 1 (([]:List ByteArray).map lfS)] Tryz.f263 0 [1,1,0,1,0] 0 (.exit 0) (fun(v0,l0)=>⟨[(1,.ptr 0 0),(3,.own 1),(4,.i_ v0)],[gy p_s,.row 9 1 (l0.map lfS)]⟩) (fun r_=>⟨[(1,.ptr 0 0),(3,.own 1)],[gy p_s,.row 9 1 (r_.map lfS)]⟩) (aev p_s 0 ([]:List ByteArray)) (EU p_s) (0,([]:List ByteArray)) fun r0=>
 .jk Tryz.f263 0 [1,1,1,0,0] 19 (fun r_=>⟨[(1,.ptr 0 0),(30,.b_ r_)],[gy p_s,.dead]⟩) ⟨[(1,.ptr 0 0),(3,.own 1)],[gy p_s,.row 9 1 (r0.map lfS)]⟩ (aa5 p_s r0) fun r1=>
 .iB (r1) (.ret (aU 1) (9))<|
 .sf Tryz.f263 0 [1,1,1,1,0,0] 0 9 8 [(1,.ptr 0 0)] [gy p_s,.dead] 39 (UA p_s) fun r2=>
 .sb Tryz.f263 0 [1,1,1,1,0,0] 9 5 8 [(1,.ptr 0 0)] [gy p_s,.dead] 39 44 r2 (UC p_s r2) fun r3=>
 .sb Tryz.f263 0 [1,1,1,1,0,0] 14 5 8 [(1,.ptr 0 0)] [gy p_s,.dead] 44 49 r3 (UD p_s r3) fun r4=>
 .sb Tryz.f263 0 [1,1,1,1,0,0] 19 5 8 [(1,.ptr 0 0)] [gy p_s,.dead] 49 54 r4 (UE p_s r4) fun r5=>
 .sb Tryz.f263 0 [1,1,1,1,0,0] 24 6 8 [(1,.ptr 0 0)] [gy p_s,.dead] 54 60 r5 (UF p_s r5) fun r6=>
 .iB (r6) (.ret (aU 1) (1))<|
 .jk Tryz.f263 0 [1,1,1,1,1,0,0] 27 (fun r_=>⟨[(1,.ptr 0 0),(72,.b_ r_)],[gy p_s,.dead]⟩) ⟨[(1,.ptr 0 0)],[gy p_s,.dead]⟩ (UG p_s) fun r7=>
 .iB (r7) (.ret (aU 1) (8))<|
 .l2m [] Tryz.f263 0 [1,1,1,1,1,1,0,1,0] 0 (fun(v1)=>⟨[(1,.ptr 0 0),(5,.i_ v1)],[gy p_s,.dead]⟩) .ret (fun _=>⟨[(2,.i_ 8)],[.dead,.dead]⟩) (.exit 2) (fun _=>⟨[],[.dead,.dead]⟩) (Yc p_s 0) (Bh p_s) (0) (fun o0=>
 .ret (aU 1) (8)) fun o1=>
 .ret (aU 1) (0)
def Q15(p_s:aI):Option (Int):=Mo.den (asw p_s)
theorem avJ(p_s:aI):FV (Q15 p_s) 263 [.dat (aI.lf1 p_s)] .i_:=dw Tryz.func263
abbrev Yd(m:aI→Int→Int→Option (Int×Int)):Prop:=∀p_s p_number p_level,FV (m p_s p_number p_level) 196 [.dat (aI.lf1 p_s),.i_ p_number,.i_ p_level] (fun r=>.tup [.i_ r.1,.i_ r.2])
structure aa6 where
 m1:(p_s:aI)→(p_number:Int)→(p_level:Int)→Option (Int×Int)
 ok1:Yd m1
def N8(R_:aa6)(p_level:Int)(p_number:Int)(p_s:aI):Mo (Bool):=
 .oV 4002 (decide ((16:Int)<p_level)) [1,2,3,18] 1 (decide ((64:Int)<p_number))
def aa7(R_:aa6)(p_level:Int)(p_s:aI)(v0:Int)(v1:Int):Mo (aI):=
 .iB (decide ((v1:Int)<(p_s.cZ.length:Int))) (.gx bH.aX p_s.cZ v1 fun x0 _=>
 .ret ⟨[.norm 1],[1,2,3,9,10],[],2⟩ (x0.bn))<|
 .nu p_s.cZ bH.lf<|
 .gx aI.aX p_s.dV (IntKind.wrap .i64 (v1-(p_s.cZ.length:Int))) fun x1 _=>
 .ret ⟨[.norm 1],[1,2,3,9,10],[],2⟩ (x1)
def aew(R_:aa6)(p_level:Int)(p_s:aI)(v0:Int)(v1:Int):Option (aI):=Mo.den (aa7 R_ p_level p_s v0 v1)
def wu(R_:aa6)(p_level:Int)(p_s:aI):(Int×Int)→Mo ((Int×Int)⊕(Int×Int)⊕(Int)):=fun(v0,v1)=>
 .nu p_s.cZ bH.lf<|
 .nu p_s.dV aI.lf<|
 .iB (decide ((v1:Int)<(IntKind.wrap .i64 ((p_s.cZ.length:Int)+(p_s.dV.length:Int))))) (.nu p_s.cZ bH.lf<|
 .jp Tryz.f196 0 [1,1,1,0,1,0,0,1,0,0,1,0,1] 1 [1,2,3,9,10,41] 2 (.normal) (fun r_=>⟨[(1,.i_ v0),(2,.i_ p_level),(3,.ptr 0 0),(9,.i_ v1),(10,.ptr 1 0)],[gy p_s,gy r_]⟩) ⟨[(1,.i_ v0),(2,.i_ p_level),(3,.ptr 0 0),(9,.i_ v1),(10,.ptr 1 0),(41,.lf (.bool (decide ((v1:Int)<(p_s.cZ.length:Int)))))],[gy p_s,.box 31 (Z31)]⟩ (aew R_ p_level p_s v0 v1) (jW (by kernel_rfl)) fun r0 _=>
 .cl (R_.ok1 r0 (IntKind.wrap .i64 (v0+1)) (IntKind.wrap .i64 (p_level+1))) fun r1 _=>
 .iB (r1.2 != 0) (.ret ⟨[.kill 0],[6,7],[],1⟩ (.inr (.inl (r1.1,r1.2))))<|
 .rt [1,2,3,9] 1 (.inl (r1.1,IntKind.wrap .i64 (v1+1))))<|
 .ret ⟨[.kill 0],[1],[],1⟩ (.inr (.inr (v0)))
def aha(R_:aa6)(p_level:Int)(p_s:aI)(v0:Int)(v1:Int):Option ((Int×Int)⊕(Int)):=bV (fun v_=>(wu R_ p_level p_s v_).den) FU (v0,v1)
def UH(R_:aa6)(p_s:aI)(p_number:Int)(p_level:Int):Mo (Int×Int):=
 .jk Tryz.f196 0 [1,0,0] 9 (fun r_=>⟨[(1,.i_ p_number),(2,.i_ p_level),(3,.ptr 0 0),(18,.b_ r_)],[gy p_s]⟩) ⟨[(1,.i_ p_number),(2,.i_ p_level),(3,.ptr 0 0)],[gy p_s]⟩ (N8 R_ p_level p_number p_s) fun r0=>
 .iB (r0) (.ret (aU 2) (p_number,2))<|
 .cl (avJ p_s) fun r1 _=>
 .iB (r1 != 0) (.ret (aU 2) (p_number,r1))<|
 .l2m [] Tryz.f196 0 [1,1,1,0,1,0] 0 (fun(v0,v1)=>⟨[(1,.i_ v0),(2,.i_ p_level),(3,.ptr 0 0),(9,.i_ v1)],[gy p_s]⟩) .ret (fun o_=>⟨[(6,.i_ o_.1),(7,.i_ o_.2)],[.dead]⟩) (.exit 0) (fun o_=>⟨[(1,.i_ o_)],[.dead]⟩) (aha R_ p_level p_s p_number 0) (wu R_ p_level p_s) (p_number,0) (fun o0=>
 .ret (aU 2) (o0.1,o0.2)) fun o1=>
 .ret (aU 2) (o1,0)
theorem arz(R_:aa6):Yd fun p_s p_number p_level=>Mo.den (UH R_ p_s p_number p_level):=fun _ _ _=>dw Tryz.func196
def uO:Nat→aa6
 |0=>{ m1:=fun p_s p_number p_level=>none,ok1:=fun _ _ _ _ h=>(by cases h) }
 |n_+1=>{ m1:=fun p_s p_number p_level=>Mo.den (UH (uO n_) p_s p_number p_level),ok1:=arz (uO n_) }
def Q41(p_s:aI)(p_number:Int)(p_level:Int):Option (Int×Int):=(uO FU).m1 p_s p_number p_level
theorem avK:Yd Q41:=(uO FU).ok1
def anu(p_s:aI):Mo (Int):=
 .cl (avK p_s 1 1) fun r0 _=>
 .ret (aU 1) (r0.2)
def avL(p_s:aI):Option (Int):=Mo.den (anu p_s)
theorem arA(p_s:aI):FV (avL p_s) 127 [.dat (aI.lf1 p_s)] .i_:=dw Tryz.func127
def EW(p_d:bW):(Int)→Mo ((Int)⊕(Int)⊕Unit):=fun(v0)=>
 .nu p_d.bJ aS.lf<|
 .iB (decide ((v0:Int)<(p_d.bJ.length:Int))) (.gx aS.aX p_d.bJ v0 fun x0 _=>
 .cl (ag8 x0) fun r0 _=>
 .iB (r0 != 0) (.ret ⟨[.kill 0],[2],[],1⟩ (.inr (.inl (r0))))<|
 .say [.order [(true,0),(true,1),(true,2),(true,3),(true,4),(true,5),(true,6),(true,7),(true,9),(false,8),(true,10)] none []] ok0<|
 .gx aS.aX p_d.bJ v0 fun x1 _=>
 .cl (arx p_d.bJ x1.fName) fun r1 _=>
 .iB (r1 != v0) (.ret ⟨[.kill 0],[2],[],1⟩ (.inr (.inl (16))))<|
 .rt [1,3] 1 (.inl (IntKind.wrap .i64 (v0+1))))<|
 .rt [1] 1 (.inr (.inr (())))
def Ye(p_d:bW)(v0:Int):Option ((Int)⊕Unit):=bV (fun v_=>(EW p_d v_).den) FU (v0)
def aa8(p_d:bW):Mo (Bool):=
 .oV 28003 (decide ((p_d.jZ:Int)<0)) [1,47] 1 (decide ((2:Int)<p_d.jZ))
def UJ(p_d:bW)(r0:Bool):Mo (Bool):=
 .iG 28008 (r0) (.rt [1,57] 1 (true))<|
 .aV 28012 (p_d.iI != 0) [1,57] 1 (p_d.iI != 1)
def asx(p_d:bW):Mo (Int):=
 .cl (Dh p_d.fName) fun r0 _=>
 .iB (!r0) (.ret (aU 1) (9))<|
 .nu p_d.bJ aS.lf<|
 .iB (decide ((16:Int)<(p_d.bJ.length:Int))) (.ret (aU 1) (2))<|
 .l2m [] Tryz.f72 0 [1,1,1,0,1,0] 0 (fun(v0)=>⟨[(1,.ptr 0 0),(3,.i_ v0)],[oG p_d]⟩) .ret (fun o_=>⟨[(2,.i_ o_)],[.dead]⟩) (.exit 0) (fun _=>⟨[(1,.ptr 0 0)],[oG p_d]⟩) (Ye p_d 0) (EW p_d) (0) (fun o0=>
 .ret (aU 1) (o0)) fun o1=>
 .sf Tryz.f72 0 [1,1,1,1,0,0] 0 8 13 [(1,.ptr 0 0)] [oG p_d] 47 (aa8 p_d) fun r1=>
 .sb Tryz.f72 0 [1,1,1,1,0,0] 8 10 13 [(1,.ptr 0 0)] [oG p_d] 47 57 r1 (UJ p_d r1) fun r2=>
 .iB (r2) (.ret (aU 1) (1))<|
 .cl (arA p_d.bn) fun r3 _=>
 .ret (aU 1) (r3)
def Q61(p_d:bW):Option (Int):=Mo.den (asx p_d)
theorem avM(p_d:bW):FV (Q61 p_d) 72 [.dat (bW.lf1 p_d)] .i_:=dw Tryz.func72
def JZ(p_hi:Int)(p_lo:Int)(p_w:aG):Mo (Bool):=
 .oV 6003 (decide ((p_w.aF:Int)<p_lo)) [3,7,20] 1 (decide ((p_hi:Int)<p_w.aF))
def J3(p_w:aG)(r0:Bool):Mo (Bool):=
 .iG 6008 (r0) (.rt [3,7,25] 1 (true))<|
 .cl (ave p_w) fun r1 _=>
 .rt [3,7,25] 1 (!r1)
def EX(p_w:aG)(r0:Bool):Mo (Bool):=
 .iG 6013 (r0) (.rt [3,7,35] 1 (true))<|
 .cl (agS p_w.aF) fun r1 _=>
 .iG 6016 (r1) (.nu p_w.bP aG.lf<|
 .rt [3,7,35] 1 ((p_w.bP.length:Int)==0))<|
 .rt [3,7,35] 1 (false)
def aa9(p_w:aG)(r0:Bool):Mo (Unit):=
 .rt [3,7,12] 1 ()
def abb(p_w:aG):Mo (Bool):=
 .cl (agQ p_w.aF) fun r0 _=>
 .iG 14002 (r0) (.cl (JY p_w.fV) fun r1 _=>
 .rt [3,7,49] 1 (!r1))<|
 .rt [3,7,49] 1 (false)
def abd(p_w:aG)(r0:Bool):Mo (Bool):=
 .iG 14008 (r0) (.rt [3,7,59] 1 (true))<|
 .cl (agR p_w.aF) fun r1 _=>
 .iG 14011 (r1) (.cl (JY p_w.mO) fun r2 _=>
 .rt [3,7,59] 1 (!r2))<|
 .rt [3,7,59] 1 (false)
def abe(p_w:aG)(r0:Bool):Mo (Bool):=
 .iG 14018 (r0) (.rt [3,7,70] 1 (true))<|
 .iG 14021 (p_w.aF==7) (.cl (JY p_w.bf.fName) fun r1 _=>
 .rt [3,7,70] 1 (!r1))<|
 .rt [3,7,70] 1 (false)
def abf(p_w:aG)(r0:Bool):Mo (Unit):=
 .rt [3,7,41] 1 ()
def abg(p_w:aG):Mo (Bool):=
 .aV 18002 (p_w.aF==10) [3,7,78] 1 (decide ((p_w.dU:Int)<1))
def abh(p_w:aG)(r0:Bool):Mo (Bool):=
 .oV 18007 (r0) [3,7,83] 1 (decide ((p_w.dU:Int)<0))
def abj(p_w:aG)(r0:Bool):Mo (Bool):=
 .oV 18012 (r0) [3,7,88] 1 (decide ((1099511627776:Int)<p_w.dU))
def abk(p_w:aG)(r0:Bool):Mo (Bool):=
 .iG 18017 (r0) (.rt [3,7,98] 1 (true))<|
 .iG 18020 (p_w.aF==12) (.cl (avf p_w.dK) fun r1 _=>
 .rt [3,7,98] 1 (!r1))<|
 .rt [3,7,98] 1 (false)
def abl(p_w:aG)(r0:Bool):Mo (Unit):=
 .rt [3,7,71] 1 ()
def abm(p_w:aG):Mo (Bool):=
 .cl (XU p_w.aF) fun r0 _=>
 .iG 22002 (r0) (.cl (avg p_w.fZ) fun r1 _=>
 .rt [3,7,99] 1 (!r1))<|
 .rt [3,7,99] 1 (false)
def abn(p_w:aG):Mo ((Int)⊕Unit):=
 .iB (p_w.aF==2) (.cl (agV p_w.aW p_w.fZ) fun r0 _=>
 .iB (r0 != 0) (.ret ⟨[.kill 0],[6],[],1⟩ (.inl (r0)))<|
 .rt [3,7] 1 (.inr (())))<|
 .rt [3,7] 1 (.inr (()))
def abo(p_w:aG):Mo (Bool):=
 .cl (XU p_w.aF) fun r0 _=>
 .iG 34002 (r0) (.cl (xg p_w.dG) fun r1 _=>
 .rt [3,7,125] 1 (!r1))<|
 .rt [3,7,125] 1 (false)
def abp(p_w:aG)(r0:Bool):Mo ((Int)⊕Unit):=
 .iB (r0) (.cl (agV p_w.dG p_w.fZ) fun r1 _=>
 .iB (r1 != 0) (.ret ⟨[.kill 0],[6],[],1⟩ (.inl (r1)))<|
 .rt [3,7] 1 (.inr (())))<|
 .rt [3,7] 1 (.inr (()))
def arB(p_w:aG)(p_lo:Int)(p_hi:Int):Mo (Int):=
 .sk Tryz.f32 0 [1,1,0,0,0] 0 8 2 (fun r_=>⟨[(3,.ptr 0 0),(7,.i_ p_w.aF),(20,.b_ r_)],[dP p_w]⟩) ⟨[(1,.i_ p_lo),(2,.i_ p_hi),(3,.ptr 0 0),(7,.i_ p_w.aF)],[dP p_w]⟩ (JZ p_hi p_lo p_w) fun r0=>
 .sb Tryz.f32 0 [1,1,0,0,0] 8 5 2 [(3,.ptr 0 0),(7,.i_ p_w.aF)] [dP p_w] 20 25 r0 (J3 p_w r0) fun r1=>
 .sb Tryz.f32 0 [1,1,0,0,0] 13 10 2 [(3,.ptr 0 0),(7,.i_ p_w.aF)] [dP p_w] 25 35 r1 (EX p_w r1) fun r2=>
 .sk Tryz.f32 0 [1,1,0,0,0] 23 1 2 (fun r_=>⟨[(3,.ptr 0 0),(7,.i_ p_w.aF),(12,.b_ r2)],[dP p_w]⟩) ⟨[(3,.ptr 0 0),(7,.i_ p_w.aF),(35,.b_ r2)],[dP p_w]⟩ (aa9 p_w r2) fun r3=>
 .iB (r2) (.ret (aU 1) (11))<|
 .nu p_w.bP aG.lf<|
 .iB (decide ((256:Int)<(p_w.bP.length:Int))) (.ret (aU 1) (2))<|
 .sf Tryz.f32 0 [1,1,0,0,1,1,1,1,0] 0 8 6 [(3,.ptr 0 0),(7,.i_ p_w.aF)] [dP p_w] 49 (abb p_w) fun r4=>
 .sb Tryz.f32 0 [1,1,0,0,1,1,1,1,0] 8 10 6 [(3,.ptr 0 0),(7,.i_ p_w.aF)] [dP p_w] 49 59 r4 (abd p_w r4) fun r5=>
 .sb Tryz.f32 0 [1,1,0,0,1,1,1,1,0] 18 11 6 [(3,.ptr 0 0),(7,.i_ p_w.aF)] [dP p_w] 59 70 r5 (abe p_w r5) fun r6=>
 .sk Tryz.f32 0 [1,1,0,0,1,1,1,1,0] 29 1 6 (fun r_=>⟨[(3,.ptr 0 0),(7,.i_ p_w.aF),(41,.b_ r6)],[dP p_w]⟩) ⟨[(3,.ptr 0 0),(7,.i_ p_w.aF),(70,.b_ r6)],[dP p_w]⟩ (abf p_w r6) fun r7=>
 .iB (r6) (.ret (aU 1) (9))<|
 .sf Tryz.f32 0 [1,1,0,0,1,1,1,1,1,1,0] 0 7 8 [(3,.ptr 0 0),(7,.i_ p_w.aF)] [dP p_w] 78 (abg p_w) fun r8=>
 .sb Tryz.f32 0 [1,1,0,0,1,1,1,1,1,1,0] 7 5 8 [(3,.ptr 0 0),(7,.i_ p_w.aF)] [dP p_w] 78 83 r8 (abh p_w r8) fun r9=>
 .sb Tryz.f32 0 [1,1,0,0,1,1,1,1,1,1,0] 12 5 8 [(3,.ptr 0 0),(7,.i_ p_w.aF)] [dP p_w] 83 88 r9 (abj p_w r9) fun r10=>
 .sb Tryz.f32 0 [1,1,0,0,1,1,1,1,1,1,0] 17 10 8 [(3,.ptr 0 0),(7,.i_ p_w.aF)] [dP p_w] 88 98 r10 (abk p_w r10) fun r11=>
 .sk Tryz.f32 0 [1,1,0,0,1,1,1,1,1,1,0] 27 1 8 (fun r_=>⟨[(3,.ptr 0 0),(7,.i_ p_w.aF),(71,.b_ r11)],[dP p_w]⟩) ⟨[(3,.ptr 0 0),(7,.i_ p_w.aF),(98,.b_ r11)],[dP p_w]⟩ (abl p_w r11) fun r12=>
 .iB (r11) (.ret (aU 1) (1))<|
 .jk Tryz.f32 0 [1,1,0,0,1,1,1,1,1,1,1,1,0] 27 (fun r_=>⟨[(3,.ptr 0 0),(7,.i_ p_w.aF),(99,.b_ r_)],[dP p_w]⟩) ⟨[(3,.ptr 0 0),(7,.i_ p_w.aF)],[dP p_w]⟩ (abm p_w) fun r13=>
 .iB (r13) (.ret (aU 1) (8))<|
 .j2 [] Tryz.f32 0 [1,1,1,0,1] 1 .ret (fun o_=>⟨[(6,.i_ o_)],[.dead]⟩) .normal (fun _=>⟨[(3,.ptr 0 0),(7,.i_ p_w.aF)],[dP p_w]⟩) ⟨[(3,.ptr 0 0),(7,.i_ p_w.aF),(109,.lf (.bool (p_w.aF==2)))],[dP p_w]⟩ (abn p_w) (fun o0=>
 .ret (aU 1) (o0)) fun o1=>
 .jk Tryz.f32 0 [1,1,1,1,0,0] 39 (fun r_=>⟨[(3,.ptr 0 0),(7,.i_ p_w.aF),(125,.b_ r_)],[dP p_w]⟩) ⟨[(3,.ptr 0 0),(7,.i_ p_w.aF)],[dP p_w]⟩ (abo p_w) fun r14=>
 .j2 [] Tryz.f32 0 [1,1,1,1,0,1] 1 .ret (fun o_=>⟨[(6,.i_ o_)],[.dead]⟩) .normal (fun _=>⟨[(3,.ptr 0 0),(7,.i_ p_w.aF)],[dP p_w]⟩) ⟨[(3,.ptr 0 0),(7,.i_ p_w.aF),(125,.b_ r14)],[dP p_w]⟩ (abp p_w r14) (fun o2=>
 .ret (aU 1) (o2)) fun o3=>
 .iB (p_w.aF==4) (.cl (avM p_w.dO) fun r15 _=>
 .ret (aU 1) (r15))<|
 .iB (p_w.aF==6) (.cl (ag8 p_w.bf) fun r16 _=>
 .ret (aU 1) (r16))<|
 .ret (aU 1) (0)
def Q3(p_w:aG)(p_lo:Int)(p_hi:Int):Option (Int):=Mo.den (arB p_w p_lo p_hi)
theorem asy(p_w:aG)(p_lo:Int)(p_hi:Int):FV (Q3 p_w p_lo p_hi) 32 [.dat (aG.lf1 p_w),.i_ p_lo,.i_ p_hi] .i_:=dw Tryz.func32
def abq(p_e:bY):Mo (Bool):=
 .oV 8003 (decide ((p_e.dU:Int)<1)) [1,19] 1 (decide ((1099511627776:Int)<p_e.dU))
def abr(p_e:bY)(r0:Bool):Mo (Bool):=
 .oV 8008 (r0) [1,24] 1 (decide ((p_e.oO:Int)<0))
def UK(p_e:bY)(r0:Bool):Mo (Unit):=
 .rt [1,11] 1 ()
def UL(p_e:bY):Mo (Bool):=
 .iG 12003 (!decide ((p_e.kH:ByteArray)=(⟨#[]⟩:ByteArray))) (.cl (JY p_e.kH) fun r0 _=>
 .rt [1,25] 1 (!r0))<|
 .rt [1,25] 1 (false)
def UM(p_e:bY):Mo (Int):=
 .iB (p_e.dh.aF==9) (.rt [1,4] 1 (3))<|
 .rt [1,4] 1 (7)
def Yf(p_e:bY):Option (Int):=Mo.den (UM p_e)
def Bj(p_e:bY)(r0:Int):(Int)→Mo ((Int)⊕(Int)⊕Unit):=fun(v0)=>
 .nu p_e.dh.bP aG.lf<|
 .iB (decide ((v0:Int)<(p_e.dh.bP.length:Int))) (.gx aG.aX p_e.dh.bP v0 fun x0 _=>
 .cl (asy x0 2 r0) fun r1 _=>
 .iB (r1 != 0) (.ret ⟨[.kill 0],[2],[],1⟩ (.inr (.inl (r1))))<|
 .rt [1,4,5] 1 (.inl (IntKind.wrap .i64 (v0+1))))<|
 .ret ⟨[.kill 0],[],[],1⟩ (.inr (.inr (())))
def Yg(p_e:bY)(r0:Int)(v0:Int):Option ((Int)⊕Unit):=bV (fun v_=>(Bj p_e r0 v_).den) FU (v0)
def asz(p_e:bY):Mo (Int):=
 .iB (decide ((p_e.rH:Int)<0)) (.ret (aU 1) (24))<|
 .sf Tryz.f12 0 [1,0,0,1,1,0] 0 8 3 [(1,.ptr 0 0)] [oU p_e] 19 (abq p_e) fun r0=>
 .sb Tryz.f12 0 [1,0,0,1,1,0] 8 5 3 [(1,.ptr 0 0)] [oU p_e] 19 24 r0 (abr p_e r0) fun r1=>
 .sk Tryz.f12 0 [1,0,0,1,1,0] 13 1 3 (fun r_=>⟨[(1,.ptr 0 0),(11,.b_ r1)],[oU p_e]⟩) ⟨[(1,.ptr 0 0),(24,.b_ r1)],[oU p_e]⟩ (UK p_e r1) fun r2=>
 .iB (r1) (.ret (aU 1) (1))<|
 .jk Tryz.f12 0 [1,0,0,1,1,1,1,0] 17 (fun r_=>⟨[(1,.ptr 0 0),(25,.b_ r_)],[oU p_e]⟩) ⟨[(1,.ptr 0 0)],[oU p_e]⟩ (UL p_e) fun r3=>
 .iB (r3) (.ret (aU 1) (9))<|
 .cl (asy p_e.dh 1 12) fun r4 _=>
 .iB (r4 != 0) (.ret (aU 1) (r4))<|
 .jp Tryz.f12 0 [1,1,1,1,0,1] 1 [1,4,44] 1 (.normal) (fun r_=>⟨[(1,.ptr 0 0),(4,.i_ r_)],[oU p_e]⟩) ⟨[(1,.ptr 0 0),(4,.i_ 7),(44,.lf (.bool (p_e.dh.aF==9)))],[oU p_e]⟩ (Yf p_e) (jW (by kernel_rfl)) fun r5 _=>
 .l2m [] Tryz.f12 0 [1,1,1,1,1,0,1,0] 0 (fun(v0)=>⟨[(1,.ptr 0 0),(4,.i_ r5),(5,.i_ v0)],[oU p_e]⟩) .ret (fun o_=>⟨[(2,.i_ o_)],[.dead]⟩) (.exit 1) (fun _=>⟨[],[.dead]⟩) (Yg p_e r5 0) (Bj p_e r5) (0) (fun o0=>
 .ret (aU 1) (o0)) fun o1=>
 .ret (aU 1) (0)
def Q29(p_e:bY):Option (Int):=Mo.den (asz p_e)
theorem avN(p_e:bY):FV (Q29 p_e) 12 [.dat (bY.lf1 p_e)] .i_:=dw Tryz.func12
def anv(p_e:bY):Mo (ByteArray×Int):=
 .cl (avN p_e) fun r0 _=>
 .iB (r0 != 0) (.ret (aU 2) (⟨#[]⟩,r0))<|
 .say [.at_ 12 1,.norm 1] ok0<|
 .cH [1] (agB p_e (aK.mk ⟨#[]⟩ false false)) fun r1 _=>
 .iB (r1.qJ) (.ret (aU 2) (⟨#[]⟩,8))<|
 .ret (aU 2) (r1.fS,0)
def avO(p_e:bY):Option (ByteArray×Int):=Mo.den (anv p_e)
theorem arC(p_e:bY):FV (avO p_e) 15 [.dat (bY.lf1 p_e)] (fun r=>.tup [.lf (.str r.1),.i_ r.2]):=dw Tryz.func15
def anw(p_e:bY):Mo (Bool):=
 .cl (aq1 p_e) fun r0 _=>
 .iB (!r0) (.cl (agP) fun r1 _=>
 .ret (aU 1) (r1))<|
 .cl (JW p_e) fun r2 _=>
 .cl (arC p_e) fun r3 _=>
 .iG 12003 (decide ((r2.1:ByteArray)=(r3.1:ByteArray))) (.iG 12008 (r2.2==r3.2) (.cl (agP) fun r4 _=>
 .ret (aU 1) (r4))<|
 .ret (aU 1) (false))<|
 .ret (aU 1) (false)
def avP(p_e:bY):Option (Bool):=Mo.den (anw p_e)
theorem arD(p_e:bY):FV (avP p_e) 4 [.dat (bY.lf1 p_e)] .b_:=dw Tryz.func4
end
end Go.Proofs.YtflpefkohpjjpaaGreatDoor
set_option linter.unusedSimpArgs false
set_option linter.unusedVariables false
namespace Go.Proofs.YtflpefkohpjjpaaGreatDoor
open Go.RowKit
theorem pz(s:ByteArray)(k:Nat)(h:k<s.size):jY s (k:Int)=some s[k]:=by
 unfold jY;rw[if_pos (by omega),Int.toNat_natCast];exact getElem?_pos s k h
theorem dH{α:Type}(f:α→List Lf){x:α}:∀{l:List α},x∈l→aP (f x)≤bK (l.map f)
 |y::r,h=>by
  simp only[List.map_cons,bK]
  rcases List.mem_cons.1 h with rfl|h
  ·omega
  ·have:=dH f h;omega
theorem jw{α:Type}(f:α→List Lf)(hf:∀x,1≤aP (f x)):∀l:List α,l.length≤bK (l.map f)
 |[]=>by simp
 |x::r=>by have:=jw f hf r;have:=hf x;simp only[List.map_cons,List.length_cons,bK];omega
theorem dF(v:ah):aP v.lf1=5+v.fText.size+bK (v.aT.map ah.lf)+bK (v.aW.map aJ.lf):=by simp only[ah.lf1,aP,Lf.bulk];omega
theorem dY(v:aJ):aP v.lf1=1+v.fName.size+aP v.fValue.lf1:=by simp only[aJ.lf1,iF,aP,Lf.bulk];omega
theorem kR(v:aY):aP v.lf1=2+bK (v.cO.map lfS):=by simp only[aY.lf1,aP,Lf.bulk];omega
theorem pV(v:bU):aP v.lf1=2:=by simp only[bU.lf1,aP,Lf.bulk]
theorem kS(v:dL):aP v.lf1=3+bK (v.bG.map bU.lf):=by simp only[dL.lf1,aP,Lf.bulk];omega
theorem jA(v:aQ):aP v.lf1=6+bK (v.cO.map lfS)+v.fName.size+bK (v.eu.map lfS)+aP v.fArg.lf1+bK (v.bC.map aQ.lf):=by simp only[aQ.lf1,iF,aP,Lf.bulk];omega
theorem gK(v:aO):aP v.lf1=6+bK (v.cO.map lfS)+aP v.fArg.lf1+bK (v.fArgs.map ah.lf)+aP v.dI.lf1+aP v.fExpr.lf1+bK (v.bC.map aO.lf):=by simp only[aO.lf1,iF,aP,Lf.bulk];omega
theorem jB(v:aS):aP v.lf1=6+v.fName.size+bK (v.fA.map aY.lf)+aP v.bM.lf1:=by simp only[aS.lf1,iF,aP,Lf.bulk];omega
theorem nP(v:bH):aP v.lf1=1+v.fName.size+aP v.bn.lf1:=by simp only[bH.lf1,iF,aP,Lf.bulk];omega
theorem fO(v:aI):aP v.lf1=11+aP v.kP.lf1+aP v.kQ.lf1+bK (v.gZ.map ah.lf)+bK (v.dW.map lfS)+bK (v.cZ.map bH.lf)+bK (v.dV.map aI.lf):=by simp only[aI.lf1,iF,aP,Lf.bulk];omega
theorem lJ(v:bW):aP v.lf1=4+v.fName.size+bK (v.bJ.map aS.lf)+aP v.bn.lf1:=by simp only[bW.lf1,iF,aP,Lf.bulk];omega
theorem jJ(v:aG):aP v.lf1=7+v.fV.size+aP v.fZ.lf1+aP v.aW.lf1+aP v.dG.lf1+aP v.dO.lf1+aP v.bf.lf1+v.mO.size+bK (v.bP.map aG.lf)+bK (v.dK.map lfI):=by simp only[aG.lf1,iF,aP,Lf.bulk];omega
theorem pW(v:bY):aP v.lf1=4+v.kH.size+aP v.dh.lf1:=by simp only[bY.lf1,iF,aP,Lf.bulk];omega
theorem N9(s:ByteArray):aP (lfS s)=s.size+1:=by simp only[lfS,aP,Lf.bulk,Nat.add_zero]
theorem aex(n:Int):aP (lfI n)=1:=by simp only[lfI,aP,Lf.bulk]
theorem fH(l:List ah):l.length≤bK (l.map ah.lf):=jw _ (fun x=>by rw[ah.aX,dF];omega) l
theorem fK(l:List aJ):l.length≤bK (l.map aJ.lf):=jw _ (fun x=>by rw[aJ.aX,dY];omega) l
theorem lK(l:List aY):l.length≤bK (l.map aY.lf):=jw _ (fun x=>by rw[aY.aX,kR];omega) l
theorem pX(l:List bU):l.length≤bK (l.map bU.lf):=jw _ (fun x=>by have:=pV x;rw[bU.aX];omega) l
theorem pY(l:List aQ):l.length≤bK (l.map aQ.lf):=jw _ (fun x=>by rw[aQ.aX,jA];omega) l
theorem nR(l:List aO):l.length≤bK (l.map aO.lf):=jw _ (fun x=>by rw[aO.aX,gK];omega) l
theorem jQ(l:List aS):l.length≤bK (l.map aS.lf):=jw _ (fun x=>by rw[aS.aX,jB];omega) l
theorem lq(l:List bH):l.length≤bK (l.map bH.lf):=jw _ (fun x=>by rw[bH.aX,nP];omega) l
theorem lF(l:List aI):l.length≤bK (l.map aI.lf):=jw _ (fun x=>by rw[aI.aX,fO];omega) l
theorem su(l:List aG):l.length≤bK (l.map aG.lf):=jw _ (fun x=>by rw[aG.aX,jJ];omega) l
theorem gX(l:List ByteArray):l.length≤bK (l.map lfS):=jw _ (fun x=>by rw[N9];omega) l
theorem zk(l:List Int):l.length≤bK (l.map lfI):=jw _ (fun x=>by rw[aex];omega) l
theorem gJ{x:ah}{l:List ah}(h:x∈l):aP x.lf1≤bK (l.map ah.lf):=by rw[←ah.aX];exact dH _ h
theorem fE{x:aJ}{l:List aJ}(h:x∈l):aP x.lf1≤bK (l.map aJ.lf):=by rw[←aJ.aX];exact dH _ h
theorem Bl{x:aY}{l:List aY}(h:x∈l):aP x.lf1≤bK (l.map aY.lf):=dH _ h
theorem EY{x:aQ}{l:List aQ}(h:x∈l):aP x.lf1≤bK (l.map aQ.lf):=by rw[←aQ.aX];exact dH _ h
theorem wz{x:aO}{l:List aO}(h:x∈l):aP x.lf1≤bK (l.map aO.lf):=by rw[←aO.aX];exact dH _ h
theorem Iw{x:aS}{l:List aS}(h:x∈l):aP x.lf1≤bK (l.map aS.lf):=dH _ h
theorem EZ{x:bH}{l:List bH}(h:x∈l):aP x.lf1≤bK (l.map bH.lf):=by rw[←bH.aX];exact dH _ h
theorem xB{x:aI}{l:List aI}(h:x∈l):aP x.lf1≤bK (l.map aI.lf):=by rw[←aI.aX];exact dH _ h
theorem UN{x:aG}{l:List aG}(h:x∈l):aP x.lf1≤bK (l.map aG.lf):=by rw[←aG.aX];exact dH _ h
theorem J4{x:ByteArray}{l:List ByteArray}(h:x∈l):x.size+1≤bK (l.map lfS):=by rw[←N9];exact dH _ h
theorem xC(x:Int):(strOfNums [x]).size=1:=by rw[F8];rfl
theorem ahb(n:Int):∃r,Q31 n=some r∧r.size≤11:=by
 unfold Q31 alV Xp Nq Xq AX Nr
 simp only[Mo.den,aj,ay,au,aA]
 have key:∀a:Int,∃r,((bV (fun v_:Int×ByteArray×Int=>(bif decide ((v_.2.2:Int)<10) then some (decide ((128:Int)≤v_.1)) else some false).bind fun a_1=>bif a_1 then if v_.2.1.size+(strOfNums [eU .or .u8 (IntKind.wrap .u8 (Int.tmod v_.1 128)) 128]).size≤9223372036854775807 then some (.inl (IntKind.wrap .u64 (Int.tdiv v_.1 128),v_.2.1++strOfNums [eU .or .u8 (IntKind.wrap .u8 (Int.tmod v_.1 128)) 128],IntKind.wrap .i64 (v_.2.2+1))) else none else some (.inr (v_.1,v_.2.1))) FU (a,⟨#[]⟩,0))=some r)∧(r:Int×ByteArray).2.size≤10:=by
  intro a
  refine KT 10 (by omega) (fun(k:Nat) (v:Int×ByteArray×Int)=>v.2.2=(k:Int)∧v.2.1.size=k) (fun(r:Int×ByteArray)=>r.2.size≤10) ⟨rfl,rfl⟩ ?_ ?_
  ·rintro k ⟨u,s,i⟩ hk ⟨h1,h2⟩
   simp only at h1 h2
   subst h1
   simp only[decide_eq_true (show(k:Int)<10 by omega),cond_true,Option.bind_some]
   cases decide ((128:Int)≤u) with
   |true=>
    left
    simp only[cond_true,xC,h2]
    rw[if_pos (by omega)]
    exact⟨_,rfl,inc k (by omega),by rw[ByteArray.size_append,xC,h2]⟩
   |false=>right;exact⟨_,rfl,by simp only;omega⟩
  ·rintro⟨u,s,i⟩ ⟨h1,h2⟩
   simp only at h1 h2
   subst h1
   exact⟨_,rfl,by simp only;omega⟩
 have fin:∀a:Int,∃r,(Option.bind (bV (fun v_:Int×ByteArray×Int=>(bif decide ((v_.2.2:Int)<10) then some (decide ((128:Int)≤v_.1)) else some false).bind fun a_1=>bif a_1 then if v_.2.1.size+(strOfNums [eU .or .u8 (IntKind.wrap .u8 (Int.tmod v_.1 128)) 128]).size≤9223372036854775807 then some (.inl (IntKind.wrap .u64 (Int.tdiv v_.1 128),v_.2.1++strOfNums [eU .or .u8 (IntKind.wrap .u8 (Int.tmod v_.1 128)) 128],IntKind.wrap .i64 (v_.2.2+1))) else none else some (.inr (v_.1,v_.2.1))) FU (a,⟨#[]⟩,0)) (fun r:Int×ByteArray=>if r.2.size+(strOfNums [IntKind.wrap .u8 r.1]).size≤9223372036854775807 then some (r.2++strOfNums [IntKind.wrap .u8 r.1]) else none))=some r∧r.size≤11:=by
  intro a
  obtain⟨r,h1,h2⟩:=key a
  rw[h1]
  simp only[Option.bind_some,xC]
  rw[if_pos (by omega)]
  exact⟨_,rfl,by rw[ByteArray.size_append,xC];omega⟩
 cases decide (n<0)
 ·exact fin _
 ·exact fin _
noncomputable def E5(n:Int):ByteArray:=(Q31 n).getD ⟨#[]⟩
theorem ahc(n:Int):Q31 n=some (E5 n):=by
 obtain⟨r,h,_⟩:=ahb n
 unfold E5;rw[h];rfl
theorem Iy(n:Int):(E5 n).size≤11:=by
 obtain⟨r,h,h2⟩:=ahb n
 unfold E5;rw[h];exact h2
end Go.Proofs.YtflpefkohpjjpaaGreatDoor
set_option linter.unusedSimpArgs false
set_option linter.unusedVariables false
namespace Go.Proofs.YtflpefkohpjjpaaGreatDoor
open Go.RowKit
mutual
noncomputable def wrF:Lf→ByteArray
 |.int _ n=>E5 n
 |.str s=>E5 (s.size:Int)++s
 |.bool b=>if b then⟨#[1]⟩ else⟨#[0]⟩
 |.rows _ l=>E5 (l.length:Int)++wrQ l
noncomputable def wrQ:List (List Lf)→ByteArray
 |[]=>ByteArray.empty
 |r::q=>wrL r++wrQ q
noncomputable def wrL:List Lf→ByteArray
 |[]=>ByteArray.empty
 |x::r=>wrF x++wrL r
end
theorem xE(r s:List Lf):wrL (r++s)=wrL r++wrL s:=by
 induction r with
 |nil=>simp[wrL]
 |cons x r ih=>simp only[List.cons_append,wrL,ih,ByteArray.append_assoc]
theorem ahd(b:UInt8):(⟨#[b]⟩:ByteArray).size=1:=rfl
mutual
theorem avQ:∀x:Lf,(wrF x).size≤12*x.bulk
 |.int _ n=>by have:=Iy n;simp only[wrF,Lf.bulk];omega
 |.str s=>by have:=Iy (s.size:Int);simp only[wrF,Lf.bulk,ByteArray.size_append];omega
 |.bool b=>by cases b<;>simp[wrF,Lf.bulk,ahd]
 |.rows _ l=>by have:=Iy (l.length:Int);have:=anx l;simp only[wrF,Lf.bulk,ByteArray.size_append];omega
theorem anx:∀l:List (List Lf),(wrQ l).size≤12*bK l
 |[]=>by simp[wrQ,bK]
 |r::q=>by have:=Iz r;have:=anx q;simp only[wrQ,bK,ByteArray.size_append];omega
theorem Iz:∀l:List Lf,(wrL l).size≤12*aP l
 |[]=>by simp[wrL,aP]
 |x::r=>by have:=avQ x;have:=Iz r;simp only[wrL,aP,ByteArray.size_append];omega
end
def Ap(m:aK→Option aK)(s:ByteArray):Prop:=∀b,b.rJ=true→b.fS.size+s.size≤4611686018427387904→m b=some ⟨b.fS++s,b.qJ,b.rJ⟩
theorem Ap.bind{m k:aK→Option aK}{s t:ByteArray}(h:Ap m s)(h2:Ap k t):Ap (fun b=>(m b).bind k) (s++t):=by
 intro b hb hs
 rw[ByteArray.size_append] at hs
 show(m b).bind k=_
 rw[h b hb (by omega),Option.bind_some]
 refine(h2 ⟨b.fS++s,b.qJ,b.rJ⟩ hb (by simp only[ByteArray.size_append];omega)).trans ?_
 simp only[ByteArray.append_assoc]
theorem Ap.to{m:aK→Option aK}{s t:ByteArray}(h:Ap m s)(e:s=t):Ap m t:=e▸h
theorem Ap.nil:Ap some ByteArray.empty:=fun b _ _=>by rw[ByteArray.append_empty]
theorem Ap.of{m k:aK→Option aK}{s:ByteArray}(h:Ap k s)(e:∀b,b.rJ=true→m b=k b):Ap m s:=fun b hb hs=>by rw[e b hb];exact h b hb hs
theorem Ap.loop{α:Type}(f:α→List Lf)(l:List α)(g:α→aK→Option aK)(T:Int×aK→Option ((Int×aK)⊕aK))(hl:l.length≤1000000000)
 (hg:∀x∈l,Ap (g x) (wrL (f x)))
 (hT:∀(k:Nat) s,(∀x,l[k]?=some x→T ((k:Int),s)=(g x s).bind fun r=>some (.inl (IntKind.wrap .i64 ((k:Int)+1),r)))∧(l[k]?=none→T ((k:Int),s)=some (.inr s))):
 Ap (fun b=>bV T FU (0,b)) (wrQ (l.map f)):=by
 intro b hb hs
 have key:∀(m:List α) (k:Nat) (b:aK) (n:Nat),l.drop k=m→m.length<n→b.rJ=true→b.fS.size+(wrQ (m.map f)).size≤4611686018427387904→
  bV T n ((k:Int),b)=some ⟨b.fS++wrQ (m.map f),b.qJ,b.rJ⟩:=by
  intro m
  induction m with
  |nil=>
   intro k b n hd hn hb hs
   obtain⟨n,rfl⟩:∃j,n=j+1:=⟨n-1,by simp at hn;omega⟩
   have h1:l[k]?=none:=by
    have:=congrArg List.length hd
    simp only[List.length_drop,List.length_nil] at this
    rw[List.getElem?_eq_none];omega
   unfold bV
   rw[(hT k b).2 h1]
   simp only[List.map_nil,wrQ,ByteArray.append_empty,Option.bind_some]
  |cons x m ih=>
   intro k b n hd hn hb hs
   obtain⟨n,rfl⟩:∃j,n=j+1:=⟨n-1,by simp at hn;omega⟩
   have h1:l[k]?=some x:=by rw[←List.head?_drop,hd];rfl
   have h2:l.drop (k+1)=m:=by rw[←List.tail_drop,hd];rfl
   have hk:k<l.length:=(List.getElem?_eq_some_iff.1 h1).1
   simp only[List.map_cons,wrQ,ByteArray.size_append] at hs
   unfold bV
   rw[(hT k b).1 x h1,hg x (List.mem_of_getElem? h1) b hb (by omega)]
   simp only[Option.bind_some]
   rw[inc k (by omega)]
   refine(ih (k+1) ⟨b.fS++wrL (f x),b.qJ,b.rJ⟩ n h2 (by simp at hn;omega) hb (by simp only[ByteArray.size_append];omega)).trans ?_
   simp only[List.map_cons,wrQ,ByteArray.append_assoc]
 exact key l 0 b FU rfl (xY (by omega)) hb hs
theorem jg(n:Int):Ap (Q8 n) (E5 n):=by
 intro b _ hs
 unfold Q8 auD
 simp only[Mo.den,au,aA,ahc,Option.bind_some]
 rw[if_pos (by omega)]
theorem Dk(s:ByteArray):Ap (Q56 s) (E5 (s.size:Int)++s):=by
 intro b hb hs
 rw[ByteArray.size_append] at hs
 unfold Q56 alW
 simp only[Mo.den,au,aA]
 rw[jg _ b hb (by omega)]
 simp only[Option.bind_some,ByteArray.size_append]
 rw[if_pos (by omega)]
 simp only[ByteArray.append_assoc]
theorem tZ(c:Bool):Ap (Q64 c) (wrF (.bool c)):=by
 intro b hb hs
 unfold Q64 amc
 simp only[Mo.den,au,ay,aA,ahd]
 cases c
 ·simp only[wrF,cond_false,Bool.false_eq_true,if_false,ahd] at hs ⊢;rw[if_pos (by omega)]
 ·simp only[wrF,cond_true,if_true,ahd] at hs ⊢;rw[if_pos (by omega)]
theorem dJ{α:Type}(l:List α)(k:Nat):(∀x,l[k]?=some x→decide ((k:Int)<(l.length:Int))=true∧mg l (k:Int)=some x)∧(l[k]?=none→decide ((k:Int)<(l.length:Int))=false):=by
 refine⟨fun x h=>?_,fun h=>?_⟩
 ·have:=(List.getElem?_eq_some_iff.1 h).1
  exact⟨iLt this,by rw[KR,h]⟩
 ·rw[List.getElem?_eq_none_iff] at h
  exact ahM (by omega)
theorem Ap.of'{m k:aK→Option aK}{s t:ByteArray}(e:∀b,b.rJ=true→m b=k b)(h:Ap k s)(hs:s=t):Ap m t:=hs▸Ap.of h e
theorem E8(l:List ByteArray)(hl:l.length≤1000000000):Ap (Q39 l) (wrF (.rows 1 (l.map lfS))):=by
 have hL:Ap (Ny l 0) (wrQ (l.map lfS)):=by
  refine Ap.of' (fun b hb=>by unfold Ny;rfl) (Ap.loop lfS l Q56 _ hl (fun x _=>(Dk x).to (by simp only[lfS,wrL,wrF,ByteArray.append_empty])) fun k s=>⟨fun x h=>?_,fun h=>?_⟩) rfl
  ·obtain⟨h1,h2⟩:=(dJ l k).1 x h
   simp only[vO,Mo.den,au,ay,h1,h2,cond_true,Option.bind_some]
  ·simp only[vO,Mo.den,au,ay,(dJ l k).2 h,cond_false]
 refine Ap.of' (fun b hb=>?_) (Ap.bind (jg (l.length:Int)) (Ap.bind hL Ap.nil)) ?_
 ·simp only[Q39,amb,Mo.den,au]
 ·simp only[wrF,List.length_map,ByteArray.append_empty]
end Go.Proofs.YtflpefkohpjjpaaGreatDoor
set_option linter.unusedSimpArgs false
set_option linter.unusedVariables false
namespace Go.Proofs.YtflpefkohpjjpaaGreatDoor
open Go.RowKit
theorem anz(x:dL)(hb:aP x.lf1≤100000000):Ap (Q55 x) (wrL x.lf1):=by
 have hl:=pX x.bG
 rw[kS] at hb
 have hL:Ap (NC x 0) (wrQ (x.bG.map bU.lf)):=by
  refine Ap.of' (fun b hb=>by unfold NC;rfl) (Ap.loop bU.lf x.bG (fun p b=>(Q8 p.fX b).bind fun r=>Q8 p.fY r) _ (by omega) (fun x hx=>(Ap.bind (jg _) (jg _)).to (by simp only[bU.lf,bU.lf1,wrL,wrF,ByteArray.append_empty])) fun k s=>⟨fun y h=>?_,fun h=>?_⟩) rfl
  ·obtain⟨h1,h2⟩:=(dJ x.bG k).1 y h
   simp only[vP,Mo.den,au,ay,h1,h2,cond_true,Option.bind_some,Option.bind_assoc]
  ·simp only[vP,Mo.den,au,ay,(dJ x.bG k).2 h,cond_false]
 refine Ap.of' (fun b hb=>?_) (Ap.bind (jg (x.aF)) (Ap.bind (jg ((x.bG.length:Int))) (Ap.bind hL (Ap.bind (jg (x.fR)) Ap.nil)))) ?_
 ·simp only[Q55,amd,Mo.den,au,ay]
 ·simp only[dL.lf1,wrL,wrF,List.length_map,ByteArray.append_empty,ByteArray.append_assoc]
theorem Yh:∀n,(∀v:ah,2*aP v.lf1<n→aP v.lf1≤100000000→Ap ((kC n).m1 v) (wrL v.lf1))∧∀l:List ah,2*bK (l.map ah.lf)+1<n→bK (l.map ah.lf)≤100000000→Ap ((kC n).m2 l) (wrF (.rows 5 (l.map ah.lf)))
 |0=>⟨fun v h=>by omega,fun l h=>by omega⟩
 |n+1=>by
  have ih:=Yh n
  refine⟨fun x h hb=>?_,fun l h hb=>?_⟩
  ·have hl:=fK x.aW
   rw[dF] at h hb
   have hL:Ap (ad9 (kC n) x 0) (wrQ (x.aW.map aJ.lf)):=by
    refine Ap.of' (fun b hb=>by unfold ad9;rfl) (Ap.loop aJ.lf x.aW (fun p b=>(Q56 p.fName b).bind fun r=>(kC n).m1 p.fValue r) _ (by omega) (fun x hx=>by have h1:=fE hx;rw[dY] at h1;exact(Ap.bind (Dk _) (ih.1 _ (by omega) (by omega))).to (by rw[aJ.aX];simp only[aJ.lf1,xE,wrL,wrF,ByteArray.append_empty])) fun k s=>⟨fun y h=>?_,fun h=>?_⟩) rfl
    ·obtain⟨h1,h2⟩:=(dJ x.aW k).1 y h
     simp only[EG,Mo.den,au,ay,h1,h2,cond_true,Option.bind_some,Option.bind_assoc]
    ·simp only[EG,Mo.den,au,ay,(dJ x.aW k).2 h,cond_false]
   refine Ap.of' (fun b hr=>?_) (Ap.bind (jg (x.aF)) (Ap.bind (jg (x.eF)) (Ap.bind (Dk (x.fText)) (Ap.bind (ih.2 x.aT (by omega) (by omega)) (Ap.bind (jg ((x.aW.length:Int))) (Ap.bind hL Ap.nil)))))) ?_
   ·simp only[kC,aay,Mo.den,au,ay,hr,cond_true]
   ·simp only[ah.lf1,wrL,wrF,List.length_map,ByteArray.append_empty,ByteArray.append_assoc]
  ·have hl:=fH l
   have hL:Ap (Nw (kC n) l 0) (wrQ (l.map ah.lf)):=by
    refine Ap.of' (fun b hb=>by unfold Nw;rfl) (Ap.loop ah.lf l (fun p b=>(kC n).m1 p b) _ (by omega) (fun x hx=>by have h1:=gJ hx;exact(ih.1 _ (by omega) (by omega)).to (by rw[ah.aX])) fun k s=>⟨fun y h=>?_,fun h=>?_⟩) rfl
    ·obtain⟨h1,h2⟩:=(dJ l k).1 y h
     simp only[vN,Mo.den,au,ay,h1,h2,cond_true,Option.bind_some,Option.bind_assoc]
    ·simp only[vN,Mo.den,au,ay,(dJ l k).2 h,cond_false]
   refine Ap.of' (fun b hr=>?_) (Ap.bind (jg ((l.length:Int))) (Ap.bind hL Ap.nil)) ?_
   ·simp only[kC,aaz,Mo.den,au,ay]
   ·simp only[wrF,List.length_map,ByteArray.append_empty]
theorem Fa(v:ah)(hb:aP v.lf1≤100000000):Ap (Q32 v) (wrL v.lf1):=(Yh FU).1 v (xY (by omega)) hb
theorem UO(l:List ah)(hb:bK (l.map ah.lf)≤100000000):Ap (Q43 l) (wrF (.rows 5 (l.map ah.lf))):=(Yh FU).2 l (xY (by omega)) hb
theorem anA(n:Nat):∀x:aQ,aP x.lf1<n→aP x.lf1≤100000000→Ap ((qN n).m1 x) (wrL x.lf1):=by
 induction n with
 |zero=>intro x h _;omega
 |succ n ih=>
  intro x h hb
  have hl:=pY x.bC
  have hl1:=gX x.cO
  have hl2:=gX x.eu
  rw[jA] at h hb
  have hL:Ap (ND (qN n) x 0) (wrQ (x.bC.map aQ.lf)):=by
   refine Ap.of' (fun b hb=>by unfold ND;rfl) (Ap.loop aQ.lf x.bC (fun p b=>(qN n).m1 p b) _ (by omega) (fun x hx=>by have h1:=EY hx;exact(ih _ (by omega) (by omega)).to (by rw[aQ.aX])) fun k s=>⟨fun y h=>?_,fun h=>?_⟩) rfl
   ·obtain⟨h1,h2⟩:=(dJ x.bC k).1 y h
    simp only[vS,Mo.den,au,ay,h1,h2,cond_true,Option.bind_some,Option.bind_assoc]
   ·simp only[vS,Mo.den,au,ay,(dJ x.bC k).2 h,cond_false]
  refine Ap.of' (fun b hr=>?_) (Ap.bind (jg (x.fOp)) (Ap.bind (E8 (x.cO) (by omega)) (Ap.bind (Dk (x.fName)) (Ap.bind (E8 (x.eu) (by omega)) (Ap.bind (Fa (x.fArg) (by omega)) (Ap.bind (jg (x.fN)) (Ap.bind (jg ((x.bC.length:Int))) (Ap.bind hL Ap.nil)))))))) ?_
  ·simp only[qN,aaA,Mo.den,au,ay]
  ·simp only[aQ.lf1,xE,wrL,wrF,List.length_map,ByteArray.append_empty,ByteArray.append_assoc]
theorem arE(v:aQ)(hb:aP v.lf1≤100000000):Ap (Q46 v) (wrL v.lf1):=anA FU v (xY (by omega)) hb
theorem anB(n:Nat):∀x:aO,aP x.lf1<n→aP x.lf1≤100000000→Ap ((qO n).m1 x) (wrL x.lf1):=by
 induction n with
 |zero=>intro x h _;omega
 |succ n ih=>
  intro x h hb
  have hl:=nR x.bC
  have hl1:=gX x.cO
  rw[gK] at h hb
  have hL:Ap (NG (qO n) x 0) (wrQ (x.bC.map aO.lf)):=by
   refine Ap.of' (fun b hb=>by unfold NG;rfl) (Ap.loop aO.lf x.bC (fun p b=>(qO n).m1 p b) _ (by omega) (fun x hx=>by have h1:=wz hx;exact(ih _ (by omega) (by omega)).to (by rw[aO.aX])) fun k s=>⟨fun y h=>?_,fun h=>?_⟩) rfl
   ·obtain⟨h1,h2⟩:=(dJ x.bC k).1 y h
    simp only[vT,Mo.den,au,ay,h1,h2,cond_true,Option.bind_some,Option.bind_assoc]
   ·simp only[vT,Mo.den,au,ay,(dJ x.bC k).2 h,cond_false]
  refine Ap.of' (fun b hr=>?_) (Ap.bind (jg (x.fOp)) (Ap.bind (E8 (x.cO) (by omega)) (Ap.bind (Fa (x.fArg) (by omega)) (Ap.bind (UO (x.fArgs) (by omega)) (Ap.bind (jg (x.fN)) (Ap.bind (jg (x.fM)) (Ap.bind (anz (x.dI) (by omega)) (Ap.bind (arE (x.fExpr) (by omega)) (Ap.bind (jg ((x.bC.length:Int))) (Ap.bind hL Ap.nil)))))))))) ?_
  ·simp only[qO,aaB,Mo.den,au,ay]
  ·simp only[aO.lf1,xE,wrL,wrF,List.length_map,ByteArray.append_empty,ByteArray.append_assoc]
theorem arF(v:aO)(hb:aP v.lf1≤100000000):Ap (Q51 v) (wrL v.lf1):=anB FU v (xY (by omega)) hb
theorem Oa(x:aS)(hb:aP x.lf1≤100000000):Ap (Q36 x) (wrL x.lf1):=by
 have hl:=lK x.fA
 rw[jB] at hb
 have hL:Ap (NH x 0) (wrQ (x.fA.map aY.lf)):=by
  refine Ap.of' (fun b hb=>by unfold NH;rfl) (Ap.loop aY.lf x.fA (fun p b=>(Q39 p.cO b).bind fun r=>Q64 p.xW r) _ (by omega) (fun x hx=>by have h1:=Bl hx;rw[kR] at h1;have h2:=gX x.cO;exact(Ap.bind (E8 _ (by omega)) (tZ _)).to (by simp only[aY.lf,aY.lf1,wrL,ByteArray.append_empty])) fun k s=>⟨fun y h=>?_,fun h=>?_⟩) rfl
  ·obtain⟨h1,h2⟩:=(dJ x.fA k).1 y h
   simp only[vU,Mo.den,au,ay,h1,h2,cond_true,Option.bind_some,Option.bind_assoc]
  ·simp only[vU,Mo.den,au,ay,(dJ x.fA k).2 h,cond_false]
 refine Ap.of' (fun b hb=>?_) (Ap.bind (Dk (x.fName)) (Ap.bind (jg (x.aF)) (Ap.bind (jg ((x.fA.length:Int))) (Ap.bind hL (Ap.bind (tZ (x.fC)) (Ap.bind (tZ (x.jS)) (Ap.bind (tZ (x.iE)) (Ap.bind (arF (x.bM) (by omega)) Ap.nil)))))))) ?_
 ·simp only[Q36,amg,Mo.den,au,ay]
 ·simp only[aS.lf1,xE,wrL,wrF,List.length_map,ByteArray.append_empty,ByteArray.append_assoc]
theorem aey(n:Nat):∀x:aI,aP x.lf1<n→aP x.lf1≤100000000→Ap ((nU n).m1 x) (wrL x.lf1):=by
 induction n with
 |zero=>intro x h _;omega
 |succ n ih=>
  intro x h hb
  have hl:=lq x.cZ
  have hl1:=lF x.dV
  have hl2:=gX x.dW
  rw[fO] at h hb
  have hL:Ap (NI (nU n) x 0) (wrQ (x.cZ.map bH.lf)):=by
   refine Ap.of' (fun b hb=>by unfold NI;rfl) (Ap.loop bH.lf x.cZ (fun p b=>(Q56 p.fName b).bind fun r=>(nU n).m1 p.bn r) _ (by omega) (fun x hx=>by have h1:=EZ hx;rw[nP] at h1;exact(Ap.bind (Dk _) (ih _ (by omega) (by omega))).to (by rw[bH.aX];simp only[bH.lf1,xE,wrL,wrF,ByteArray.append_empty])) fun k s=>⟨fun y h=>?_,fun h=>?_⟩) rfl
   ·obtain⟨h1,h2⟩:=(dJ x.cZ k).1 y h
    simp only[vV,Mo.den,au,ay,h1,h2,cond_true,Option.bind_some,Option.bind_assoc]
   ·simp only[vV,Mo.den,au,ay,(dJ x.cZ k).2 h,cond_false]
  have hL2:Ap (NJ (nU n) x 0) (wrQ (x.dV.map aI.lf)):=by
   refine Ap.of' (fun b hb=>by unfold NJ;rfl) (Ap.loop aI.lf x.dV (fun p b=>(nU n).m1 p b) _ (by omega) (fun x hx=>by have h1:=xB hx;exact(ih _ (by omega) (by omega)).to (by rw[aI.aX])) fun k s=>⟨fun y h=>?_,fun h=>?_⟩) rfl
   ·obtain⟨h1,h2⟩:=(dJ x.dV k).1 y h
    simp only[vW,Mo.den,au,ay,h1,h2,cond_true,Option.bind_some,Option.bind_assoc]
   ·simp only[vW,Mo.den,au,ay,(dJ x.dV k).2 h,cond_false]
  refine Ap.of' (fun b hr=>?_) (Ap.bind (jg (x.ig)) (Ap.bind (tZ (x.iO)) (Ap.bind (Fa (x.kP) (by omega)) (Ap.bind (tZ (x.iP)) (Ap.bind (Fa (x.kQ) (by omega)) (Ap.bind (UO (x.gZ) (by omega)) (Ap.bind (jg (x.jD)) (Ap.bind (jg (x.jE)) (Ap.bind (E8 (x.dW) (by omega)) (Ap.bind (jg ((x.cZ.length:Int))) (Ap.bind hL (Ap.bind (tZ (x.kG)) (Ap.bind (jg ((x.dV.length:Int))) (Ap.bind hL2 (Ap.bind (tZ (x.fC)) Ap.nil))))))))))))))) ?_
  ·simp only[nU,aaC,Mo.den,au,ay]
  ·simp only[aI.lf1,xE,wrL,wrF,List.length_map,ByteArray.append_empty,ByteArray.append_assoc]
theorem aiK(v:aI)(hb:aP v.lf1≤100000000):Ap (Q19 v) (wrL v.lf1):=aey FU v (xY (by omega)) hb
theorem abt(x:bW)(hb:aP x.lf1≤100000000):Ap (Q44 x) (wrL x.lf1):=by
 have hl:=jQ x.bJ
 rw[lJ] at hb
 have hL:Ap (NK x 0) (wrQ (x.bJ.map aS.lf)):=by
  refine Ap.of' (fun b hb=>by unfold NK;rfl) (Ap.loop aS.lf x.bJ (fun p b=>Q36 p b) _ (by omega) (fun x hx=>by have h1:=Iw hx;exact Oa _ (by omega)) fun k s=>⟨fun y h=>?_,fun h=>?_⟩) rfl
  ·obtain⟨h1,h2⟩:=(dJ x.bJ k).1 y h
   simp only[vX,Mo.den,au,ay,h1,h2,cond_true,Option.bind_some,Option.bind_assoc]
  ·simp only[vX,Mo.den,au,ay,(dJ x.bJ k).2 h,cond_false]
 refine Ap.of' (fun b hb=>?_) (Ap.bind (Dk (x.fName)) (Ap.bind (jg ((x.bJ.length:Int))) (Ap.bind hL (Ap.bind (aiK (x.bn) (by omega)) (Ap.bind (jg (x.jZ)) (Ap.bind (jg (x.iI)) Ap.nil)))))) ?_
 ·simp only[Q44,amh,Mo.den,au,ay]
 ·simp only[bW.lf1,xE,wrL,wrF,List.length_map,ByteArray.append_empty,ByteArray.append_assoc]
end Go.Proofs.YtflpefkohpjjpaaGreatDoor
set_option linter.unusedSimpArgs false
set_option linter.unusedVariables false
namespace Go.Proofs.YtflpefkohpjjpaaGreatDoor
open Go.RowKit
theorem fJ:1152921504606846975<FU:=by unfold FU;omega
def Tot{ρ:Type}(m:Option ρ)(Q:ρ→Prop):Prop:=∃r,m=some r∧Q r
def LP{σ ρ:Type}(P:σ→Prop)(Q:ρ→Prop):σ⊕ρ→Prop
 |.inl s=>P s
 |.inr r=>Q r
def Any{ρ:Type}:ρ→Prop:=fun _=>True
namespace T
variable {ρ α σ:Type}
theorem ret{Q:ρ→Prop}{r:ρ}(h:Q r):Tot (some r) Q:=⟨r,rfl,h⟩
theorem any{r:ρ}:Tot (some r) Any:=⟨r,rfl,trivial⟩
theorem bind{m:Option α}{R:α→Prop}{k:α→Option ρ}{Q:ρ→Prop}(h:Tot m R)(h2:∀a,R a→Tot (k a) Q):Tot (m.bind k) Q:=by
 obtain⟨a,rfl,ha⟩:=h
 exact h2 a ha
theorem ite{b:Bool}{x y:Option ρ}{Q:ρ→Prop}(h1:b=true→Tot x Q)(h2:b=false→Tot y Q):Tot (bif b then x else y) Q:=by
 cases b
 ·exact h2 rfl
 ·exact h1 rfl
theorem grd{p:Prop}[Decidable p]{x:Option ρ}{Q:ρ→Prop}(h:p)(h2:Tot x Q):Tot (if p then x else none) Q:=by
 rw[if_pos h];exact h2
theorem mono{m:Option ρ}{Q R:ρ→Prop}(h:Tot m Q)(h2:∀r,Q r→R r):Tot m R:=by
 obtain⟨r,h1,h3⟩:=h;exact⟨r,h1,h2 r h3⟩
theorem wk{m:Option ρ}{Q:ρ→Prop}(h:Tot m Q):Tot m Any:=mono h fun _ _=>trivial
theorem val{m:Option ρ}{r:ρ}(h:m=some r):Tot m (fun x=>x=r):=⟨r,h,rfl⟩
theorem nV{T:σ→Option (σ⊕ρ)}{s0:σ}(n:Nat)(hn:n≤1000000000)(P:Nat→σ→Prop)(Q:ρ→Prop)(h0:P 0 s0)(step:∀k s,k<n→P k s→Tot (T s) (LP (P (k+1)) Q))(fin:∀s,P n s→Tot (T s) (LP (fun _=>False) Q)):Tot (bV T FU s0) Q:=by
 refine KT n hn P Q h0 ?_ ?_
 ·intro k s hk hP
  obtain⟨r,h1,h2⟩:=step k s hk hP
  rcases r with v|r
  ·exact .inl ⟨v,h1,h2⟩
  ·exact .inr ⟨r,h1,h2⟩
 ·intro s hP
  obtain⟨r,h1,h2⟩:=fin s hP
  rcases r with v|r
  ·exact h2.elim
  ·exact⟨r,h1,h2⟩
end T
theorem ltt{α:Type}{l:List α}{k:Nat}{x:α}(h:l[k]?=some x):decide ((k:Int)<(l.length:Int))=true:=iLt (List.getElem?_eq_some_iff.1 h).1
theorem ltn(n:Nat):decide ((n:Int)<(n:Int))=false:=ahM (Nat.lt_irrefl _)
theorem gid{α:Type}{l:List α}{k:Nat}{x:α}(h:l[k]?=some x):mg l (k:Int)=some x:=by rw[KR,h]
theorem gG{α:Type}{l:List α}{k:Nat}{x:α}(h:l[k]?=some x):x∈l:=List.mem_of_getElem? h
theorem nX{α:Type}{l:List α}{k:Nat}{x:α}(h:l[k]?=some x):k<l.length:=(List.getElem?_eq_some_iff.1 h).1
theorem UQ(l m:List (List Lf)):bK (l++m)=bK l+bK m:=by
 induction l with
 |nil=>simp[bK]
 |cons x l ih=>simp only[List.cons_append,bK,ih];omega
theorem xG{α:Type}(f:α→List Lf){l:List α}{k:Nat}{x:α}(h:l[k]?=some x):bK ((l.take (k+1)).map f)=bK ((l.take k).map f)+aP (f x):=by
 have hk:=nX h
 rw[List.take_succ_eq_append_getElem hk,List.map_append,UQ]
 have:l[k]=x:=by rw[List.getElem?_eq_getElem hk] at h;injection h
 simp only[this,List.map_cons,List.map_nil,bK];omega
theorem jF{α:Type}(f:α→List Lf)(l:List α)(k:Nat):bK ((l.take k).map f)≤bK (l.map f):=by
 have:=UQ ((l.take k).map f) ((l.drop k).map f)
 rw[←List.map_append,List.take_append_drop] at this;omega
def MT{ρ:Type}(t:Mo ρ)(Q:ρ→Prop):Prop:=Tot t.den Q
namespace MT
variable {ρ α β γ:Type}
theorem ret{f:Fit}{r:ρ}{Q:ρ→Prop}(h:Q r):MT (.ret f r) Q:=⟨r,rfl,h⟩
theorem any{f:Fit}{r:ρ}:MT (.ret f r) Any:=⟨r,rfl,trivial⟩
theorem say{qs:List Ans}{Φ:List Prop}{ok:eG Φ}{k:Mo ρ}{Q:ρ→Prop}(h:MT k Q):MT (.say qs ok k) Q:=h
theorem ite{b:Bool}{t:b=true→Mo ρ}{e:b=false→Mo ρ}{Q:ρ→Prop}(h1:∀h,MT (t h) Q)(h2:∀h,MT (e h) Q):MT (.ite b t e) Q:=by
 cases b
 ·exact h2 rfl
 ·exact h1 rfl
theorem grd{p:Prop}[d:Decidable p]{k:p→Mo ρ}{Q:ρ→Prop}(h:p)(h2:∀h,MT (k h) Q):MT (.grd p k) Q:=by
 unfold MT Tot
 show ∃r,P8 p _=some r∧Q r
 unfold P8
 cases d with
 |isTrue hh=>exact h2 hh
 |isFalse hh=>exact absurd h hh
theorem ask{m:Option α}{k:(a:α)→m=some a→Mo ρ}{R:α→Prop}{Q:ρ→Prop}(h:Tot m R)(h2:∀a h,R a→MT (k a h) Q):MT (.ask m k) Q:=by
 obtain⟨a,rfl,ha⟩:=h
 exact h2 a rfl ha
theorem lI{m:Option (α⊕β)}{k1:(a:α)→m=some (.inl a)→Mo ρ}{k2:(b:β)→m=some (.inr b)→Mo ρ}{R:α⊕β→Prop}{Q:ρ→Prop}(h:Tot m R)(h1:∀a h,R (.inl a)→MT (k1 a h) Q)(h2:∀b h,R (.inr b)→MT (k2 b h) Q):MT (.lI m k1 k2) Q:=by
 obtain⟨a,rfl,ha⟩:=h
 rcases a with a|a
 ·exact h1 a rfl ha
 ·exact h2 a rfl ha
theorem ahL{m:Option (α⊕β⊕γ)}{k1:(a:α)→m=some (.inl a)→Mo ρ}{k2:(b:β)→m=some (.inr (.inl b))→Mo ρ}{k3:(c:γ)→m=some (.inr (.inr c))→Mo ρ}{R:α⊕β⊕γ→Prop}{Q:ρ→Prop}(h:Tot m R)(h1:∀a h,R (.inl a)→MT (k1 a h) Q)(h2:∀b h,R (.inr (.inl b))→MT (k2 b h) Q)(h3:∀b h,R (.inr (.inr b))→MT (k3 b h) Q):MT (.ahL m k1 k2 k3) Q:=by
 obtain⟨a,rfl,ha⟩:=h
 rcases a with a|a|a
 ·exact h1 a rfl ha
 ·exact h2 a rfl ha
 ·exact h3 a rfl ha
end MT
structure Clo {ρ:Type} (m:Option ρ):Prop where
 h:Tot m Any
namespace MT
variable {ρ α β γ:Type}
theorem mY{m:Option α}{k:(a:α)→m=some a→Mo ρ}{Q:ρ→Prop}(h:Clo m)(h2:∀a h,MT (k a h) Q):MT (.ask m k) Q:=ask h.h fun a h _=>h2 a h
theorem asA{m:Option (α⊕β)}{k1:(a:α)→m=some (.inl a)→Mo ρ}{k2:(b:β)→m=some (.inr b)→Mo ρ}{Q:ρ→Prop}(h:Clo m)(h1:∀a h,MT (k1 a h) Q)(h2:∀b h,MT (k2 b h) Q):MT (.lI m k1 k2) Q:=lI h.h (fun a h _=>h1 a h) (fun a h _=>h2 a h)
end MT
theorem eX{α:Type}(l:List α)(i:Int)(h0:0≤i)(h1:i<l.length):Tot (mg l i) (fun x=>x∈l):=by
 obtain⟨x,h2,h3⟩:=aoQ h0 h1
 exact⟨x,h2,List.mem_of_getElem? h3⟩
namespace T
variable {ρ σ:Type}
theorem arG{T:σ→Option (σ⊕ρ)}{s0:σ}(c:σ→Int)(P:σ→Prop)(Q:ρ→Prop)(h0:c s0=0)(hP:P s0)(step:∀(k:Nat) s,k≤100000000→c s=k→P s→Tot (T s) (LP (fun v=>c v=IntKind.wrap .i64 ((k:Int)+1)∧P v∧k<100000000) Q)):Tot (bV T FU s0) Q:=by
 refine rO (fun s=>0≤c s∧c s≤100000000∧P s) (fun s=>100000000-(c s).toNat) Q ?_ FU s0 ⟨by omega,by omega,hP⟩ (by have:=fJ;omega)
 rintro s ⟨h1,h2,h3⟩
 obtain⟨r,h4,h5⟩:=step (c s).toNat s (by omega) (by omega) h3
 rcases r with v|r
 ·have h5:c v=IntKind.wrap .i64 (((c s).toNat:Int)+1)∧P v∧(c s).toNat<100000000:=h5
  have h6:=h5.1
  rw[inc _ (by omega)] at h6
  exact .inl ⟨v,h4,⟨by omega,by omega,h5.2.1⟩,by omega⟩
 ·exact .inr ⟨r,h4,h5⟩
theorem cnt{T:Int→Option (Int⊕ρ)}(Q:ρ→Prop)(step:∀k:Nat,k≤100000000→Tot (T (k:Int)) (LP (fun v=>v=IntKind.wrap .i64 ((k:Int)+1)∧k<100000000) Q)):Tot (bV T FU 0) Q:=
 arG (fun v=>v) (fun _=>True) Q rfl trivial fun k s hk hs _=>by
  obtain rfl:s=(k:Int):=hs
  refine mono (step k hk) ?_
  rintro(v|r) h
  ·exact⟨h.1,trivial,h.2⟩
  ·exact h
theorem awU{α:Type}{T:α×Int→Option ((α×Int)⊕ρ)}{a:α}(Q:ρ→Prop)(step:∀(a:α) (k:Nat),k≤100000000→Tot (T (a,(k:Int))) (LP (fun v=>v.2=IntKind.wrap .i64 ((k:Int)+1)∧k<100000000) Q)):Tot (bV T FU (a,0)) Q:=
 arG (fun v=>v.2) (fun _=>True) Q rfl trivial fun k s hk hs _=>by
  obtain⟨a,i⟩:=s
  obtain rfl:i=(k:Int):=hs
  refine mono (step a k hk) ?_
  rintro(v|r) h
  ·exact⟨h.1,trivial,h.2⟩
  ·exact h
theorem Pg{α:Type}{T:Int×α→Option ((Int×α)⊕ρ)}{a:α}(Q:ρ→Prop)(step:∀(k:Nat) (a:α),k≤100000000→Tot (T ((k:Int),a)) (LP (fun v=>v.1=IntKind.wrap .i64 ((k:Int)+1)∧k<100000000) Q)):Tot (bV T FU (0,a)) Q:=
 arG (fun v=>v.1) (fun _=>True) Q rfl trivial fun k s hk hs _=>by
  obtain⟨i,a⟩:=s
  obtain rfl:i=(k:Int):=hs
  refine mono (step k a hk) ?_
  rintro(v|r) h
  ·exact⟨h.1,trivial,h.2⟩
  ·exact h
end T
end Go.Proofs.YtflpefkohpjjpaaGreatDoor
set_option linter.unusedSimpArgs false
set_option linter.unusedVariables false
namespace Go.Proofs.YtflpefkohpjjpaaGreatDoor
open Go.RowKit
theorem sD(s:ByteArray):Q68 s=some (nameB s):=by
 unfold Q68 asb SE SC SB kX kW
 simp only[Mo.den,au,aj,ak,ay,aA]
 by_cases h0:s.size<1
 ·rw[decide_eq_true (show(s.size:Int)<1 by omega),Gs s (by omega)];rfl
 rw[decide_eq_false (show ¬(s.size:Int)<1 by omega)];simp only[cond_false,Option.bind_some]
 by_cases h1:32<s.size
 ·rw[decide_eq_true (show(32:Int)<(s.size:Int) by omega),Gq s h1];rfl
 rw[decide_eq_false (show ¬(32:Int)<(s.size:Int) by omega)];simp only[cond_false]
 have hz:jY s 0=some s[0]:=pz s 0 (by omega)
 rw[hz,CW s (by omega) (by omega)]
 simp only[Option.bind_some]
 have e36:((s[0].toNat:Int)==36)=(s[0].toNat==36):=by rw[Bool.eq_iff_iff];simp;omega
 rw[e36]
 cases hq:s[0].toNat==36 with
 |true=>rfl
 |false=>
  simp only[cond_false,Bool.not_false,Bool.true_and]
  refine Zk s.size (by omega) (fun n k=>k=n∧∀i (hi:i<s.size),i<n→tH s[i].toNat=true) (fun r=>match r with|.inl _=>s.data.toList.all (fun c=>tH c.toNat)=false|.inr _=>s.data.toList.all (fun c=>tH c.toNat)=true) ⟨rfl,by omega⟩ ?_ ?_ ?_
  ·rintro n k hn ⟨rfl,hv⟩
   simp only[iLt hn,cond_true,pz s n hn,Option.bind_some]
   have hc:tH s[n].toNat=(decide (33≤s[n].toNat)&&decide (s[n].toNat≤126)&&!(s[n].toNat==46)):=rfl
   have e46:((s[n].toNat:Int)==46)=(s[n].toNat==46):=by rw[Bool.eq_iff_iff];simp;omega
   by_cases a1:s[n].toNat<33
   ·rw[decide_eq_true (show(s[n].toNat:Int)<33 by omega)];right
    exact⟨_,rfl,wS s _ n hn (by rw[hc,decide_eq_false (show ¬33≤s[n].toNat by omega)];rfl)⟩
   rw[decide_eq_false (show ¬(s[n].toNat:Int)<33 by omega)];simp only[cond_false]
   by_cases a2:126<s[n].toNat
   ·rw[decide_eq_true (show(126:Int)<(s[n].toNat:Int) by omega)];right
    exact⟨_,rfl,wS s _ n hn (by rw[hc,decide_eq_false (show ¬s[n].toNat≤126 by omega),Bool.and_false];rfl)⟩
   rw[decide_eq_false (show ¬(126:Int)<(s[n].toNat:Int) by omega),e46];simp only[cond_false,Option.bind_some]
   cases a3:s[n].toNat==46 with
   |true=>right;exact⟨_,rfl,wS s _ n hn (by rw[hc,a3,Bool.not_true,Bool.and_false])⟩
   |false=>
    left
    refine⟨_,rfl,inc n (by omega),fun i hi hl=>?_⟩
    rcases Nat.lt_succ_iff_lt_or_eq.1 hl with h3|rfl
    ·exact hv i hi h3
    ·rw[hc,a3,decide_eq_true (show 33≤s[i].toNat by omega),decide_eq_true (show s[i].toNat≤126 by omega)];rfl
  ·rintro k ⟨rfl,hv⟩
   exact⟨.inr (),by simp only[ahM (Nat.lt_irrefl _),cond_false],VT s _ fun i hi=>hv i hi hi⟩
  ·rintro(u|u) h2
   ·exact congrArg some h2.symm
   ·exact congrArg some h2.symm
def uf(p:List ByteArray):Bool:=decide (1≤p.length)&&decide (p.length≤16)&&p.all nameB
theorem zn{α:Type}(f:α→Bool){l:List α}{k:Nat}{x:α}(h:l[k]?=some x):(l.take (k+1)).all f=((l.take k).all f&&f x):=by
 have hk:=nX h
 have:l[k]=x:=by rw[List.getElem?_eq_getElem hk] at h;injection h
 rw[List.take_succ_eq_append_getElem hk,List.all_append,this];simp
theorem Yi{α:Type}(f:α→Bool){l:List α}{k:Nat}{x:α}(h:l[k]?=some x)(hf:f x=false):l.all f=false:=by
 rw[List.all_eq_false];exact⟨x,gG h,by simp[hf]⟩
theorem Fb(p:List ByteArray):Q92 p=some (uf p):=by
 unfold Q92 asf aaF aaE
 simp only[Mo.den,au,aj,ak,ay,aA,uf]
 by_cases h0:p.length<1
 ·rw[decide_eq_true (show(p.length:Int)<1 by omega),decide_eq_false (show ¬1≤p.length by omega)];rfl
 rw[decide_eq_false (show ¬(p.length:Int)<1 by omega),decide_eq_true (show 1≤p.length by omega)];simp only[cond_false,Option.bind_some,Bool.true_and]
 by_cases h1:16<p.length
 ·rw[decide_eq_true (show(16:Int)<(p.length:Int) by omega),decide_eq_false (show ¬p.length≤16 by omega)];rfl
 rw[decide_eq_false (show ¬(16:Int)<(p.length:Int) by omega),decide_eq_true (show p.length≤16 by omega)];simp only[cond_false,Bool.true_and]
 refine Zk p.length (by omega) (fun n k=>k=n∧(p.take n).all nameB=true) (fun r=>match r with|.inl _=>p.all nameB=false|.inr _=>p.all nameB=true) ⟨rfl,by simp⟩ ?_ ?_ ?_
 ·rintro n k hn ⟨rfl,hv⟩
  have hx:=List.getElem?_eq_getElem hn
  simp only[iLt hn,cond_true,gid hx,Option.bind_some,sD]
  cases hb:nameB p[n] with
  |false=>right;exact⟨_,rfl,Yi _ hx hb⟩
  |true=>left;exact⟨_,rfl,inc n (by omega),by rw[zn _ hx,hv,hb];rfl⟩
 ·rintro k ⟨rfl,hv⟩
  exact⟨.inr (),by simp only[ahM (Nat.lt_irrefl _),cond_false],by rw[List.take_length] at hv;exact hv⟩
 ·rintro(u|u) h2
  ·exact congrArg some h2.symm
  ·exact congrArg some h2.symm
theorem UR(s:ByteArray):avb s=some (nameB s):=by
 simp only[avb,am0,Mo.den,au,aj,ak,ay,aA,Fb,Option.bind_some,uf,List.length_cons,List.length_nil,List.all_cons,List.all_nil,Bool.and_true];rfl
def iW(v:ah):Bool:=v.aF==0&&v.eF==0&&decide (v.fText=⟨#[]⟩)&&(v.aT.length:Int)==0&&(v.aW.length:Int)==0
theorem qB(v:ah):auE v=some (iW v):=by
 simp only[auE,alX,dQ,mX,mW,oZ,oW,Mo.den,au,aj,ak,ay,aA,iW]
 cases v.aF==0<;>cases v.eF==0<;>cases decide (v.fText=⟨#[]⟩)<;>cases (v.aT.length:Int)==0<;>rfl
def parts(v:ah):List ah:=(if v.aF=6 then v.aT else [])++(if v.aF=5 then v.aW.map aJ.fValue else [])
theorem UU(v:ah)(hb:aP v.lf1≤100000000):Q40 v=some (parts v):=by
 have hl:=fH v.aT
 have hd:=fK v.aW
 rw[dF] at hb
 have h0:adZ v 0 []=some v.aT:=by
  have:Tot (adZ v 0 []) (fun r=>r=v.aT):=by
   refine T.nV v.aT.length (by omega) (fun k s=>s=((k:Int),v.aT.take k)) _ rfl ?_ ?_
   ·rintro k s hk rfl
    have hx:=List.getElem?_eq_getElem hk
    simp only[Es,Mo.den,au,aj,ak,ay,aA,ltt hx,gid hx,cond_true,Option.bind_some]
    refine T.grd (by simp only[List.length_take,List.length_cons,List.length_nil];omega) (T.ret ?_)
    show _=_
    rw[inc k (by omega),List.take_succ_eq_append_getElem hk]
   ·rintro s rfl
    simp only[Es,Mo.den,au,aj,ak,ay,aA,ltn,cond_false]
    exact T.ret (show _=_ by rw[List.take_length])
  obtain⟨r,h,rfl⟩:=this;exact h
 have h1:∀l0:List ah,l0.length≤100000000→Xr v 0 l0=some (l0++v.aW.map aJ.fValue):=by
  intro l0 hl0
  have:Tot (Xr v 0 l0) (fun r=>r=l0++v.aW.map aJ.fValue):=by
   refine T.nV v.aW.length (by omega) (fun k s=>s=((k:Int),l0++(v.aW.take k).map aJ.fValue)) _ (by simp) ?_ ?_
   ·rintro k s hk rfl
    have hx:=List.getElem?_eq_getElem hk
    simp only[AY,Mo.den,au,aj,ak,ay,aA,ltt hx,gid hx,cond_true,Option.bind_some]
    refine T.grd (by simp only[List.length_append,List.length_map,List.length_take,List.length_cons,List.length_nil];omega) (T.ret ?_)
    show _=_
    rw[inc k (by omega),List.take_succ_eq_append_getElem hk,List.map_append,List.append_assoc];rfl
   ·rintro s rfl
    simp only[AY,Mo.den,au,aj,ak,ay,aA,ltn,cond_false]
    exact T.ret (show _=_ by rw[List.take_length])
  obtain⟨r,h,rfl⟩:=this;exact h
 unfold Q40 ar9 Z8 SA parts
 simp only[Mo.den,au,aj,ak,ay,aA,h0]
 by_cases a:v.aF=6
 ·have b:v.aF≠5:=by omega
  rw[show(v.aF==6)=true by simpa using a,show(v.aF==5)=false by simpa using b]
  simp[a]
 ·rw[show(v.aF==6)=false by simpa using a]
  by_cases b:v.aF=5
  ·rw[show(v.aF==5)=true by simpa using b];simp[a,b,h1]
  ·rw[show(v.aF==5)=false by simpa using b];simp[a,b]
theorem xH{v x:ah}(h:x∈parts v):aP x.lf1<aP v.lf1:=by
 rw[dF v]
 unfold parts at h
 rcases List.mem_append.1 h with h|h
 ·split at h
  ·have:=gJ h;omega
  ·simp at h
 ·split at h
  ·obtain⟨f,hf,rfl⟩:=List.mem_map.1 h
   have:=fE hf;rw[dY] at this;omega
  ·simp at h
theorem UW(v:ah):(parts v).length≤aP v.lf1:=by
 have hl:=fH v.aT
 have hd:=fK v.aW
 rw[dF v]
 unfold parts
 rw[List.length_append]
 split<;>split<;>simp<;>omega
end Go.Proofs.YtflpefkohpjjpaaGreatDoor
set_option linter.unusedSimpArgs false
set_option linter.unusedVariables false
namespace Go.Proofs.YtflpefkohpjjpaaGreatDoor
open Go.RowKit
def jR(f:ah→Nat→Nat)(lim:Nat):List ah→Nat→Nat
 |[],n=>n
 |p::r,n=>if f p n<lim then jR f lim r (f p n) else f p n
theorem xI(f:ah→Nat→Nat)(lim:Nat)(p:ah)(r:List ah)(n:Nat):jR f lim (p::r) n=if f p n<lim then jR f lim r (f p n) else f p n:=rfl
mutual
def ah.cnt:ah→Nat
 |.mk k _ _ l d=>1+((if k=6 then ah.cnts l else 0)+(if k=5 then aJ.cnts d else 0))
def ah.cnts:List ah→Nat
 |[]=>0
 |x::r=>x.cnt+ah.cnts r
def aJ.cnts:List aJ→Nat
 |[]=>0
 |.mk _ x::r=>x.cnt+aJ.cnts r
end
mutual
def ah.dep:ah→Nat
 |.mk k _ _ l d=>1+max (if k=6 then ah.deps l else 0) (if k=5 then aJ.deps d else 0)
def ah.deps:List ah→Nat
 |[]=>0
 |x::r=>max x.dep (ah.deps r)
def aJ.deps:List aJ→Nat
 |[]=>0
 |.mk _ x::r=>max x.dep (aJ.deps r)
end
def mZ:List Nat→Nat
 |[]=>0
 |x::r=>x+mZ r
def pF:List Nat→Nat
 |[]=>0
 |x::r=>max x (pF r)
theorem Fe:∀l m:List Nat,mZ (l++m)=mZ l+mZ m
 |[],m=>(Nat.zero_add _).symm
 |x::r,m=>by show x+mZ (r++m)=(x+mZ r)+mZ m;rw[Fe r m];omega
theorem Oc:∀l m:List Nat,pF (l++m)=max (pF l) (pF m)
 |[],m=>by show pF m=max 0 (pF m);omega
 |x::r,m=>by show max x (pF (r++m))=max (max x (pF r)) (pF m);rw[Oc r m];omega
theorem ahe:∀l:List ah,ah.cnts l=mZ (l.map ah.cnt)
 |[]=>by simp[ah.cnts,mZ]
 |x::r=>by simp[ah.cnts,mZ,ahe r]
theorem abu:∀l:List aJ,aJ.cnts l=mZ ((l.map aJ.fValue).map ah.cnt)
 |[]=>by simp[aJ.cnts,mZ]
 |.mk n x::r=>by simp[aJ.cnts,mZ,abu r,aJ.fValue]
theorem ahf:∀l:List ah,ah.deps l=pF (l.map ah.dep)
 |[]=>by simp[ah.deps,pF]
 |x::r=>by simp[ah.deps,pF,ahf r]
theorem abv:∀l:List aJ,aJ.deps l=pF ((l.map aJ.fValue).map ah.dep)
 |[]=>by simp[aJ.deps,pF]
 |.mk n x::r=>by simp[aJ.deps,pF,abv r,aJ.fValue]
theorem IB(v:ah):v.cnt=1+mZ ((parts v).map ah.cnt):=by
 cases v with
 |mk k i s l d=>
  unfold parts
  rw[List.map_append,Fe]
  unfold ah.cnt
  rw[ahe,abu]
  simp only[ah.aF,ah.aT,ah.aW]
  by_cases h6:k=6
  ·subst h6;simp[mZ]
  ·by_cases h5:k=5
   ·subst h5;simp[mZ]
   ·simp[h6,h5,mZ]
theorem IC(v:ah):v.dep=1+pF ((parts v).map ah.dep):=by
 cases v with
 |mk k i s l d=>
  unfold parts
  rw[List.map_append,Oc]
  unfold ah.dep
  rw[ahf,abv]
  simp only[ah.aF,ah.aT,ah.aW]
  by_cases h6:k=6
  ·subst h6;simp[pF]
  ·by_cases h5:k=5
   ·subst h5;simp[pF]
   ·simp[h6,h5,pF]
theorem afx(v:ah):1≤v.cnt:=by rw[IB];omega
theorem afy(v:ah):1≤v.dep:=by rw[IC];omega
theorem UY(most:Nat):∀(l:List ah) (n:Nat),n<most→jR (fun p n=>n+min p.cnt (most-n)) most l n=min (n+mZ (l.map ah.cnt)) most
 |[],n,h=>by unfold jR;simp only[List.map_nil,mZ];omega
 |p::r,n,h=>by
  unfold jR
  simp only[List.map_cons,mZ]
  split
  ·rename_i hc
   rw[UY most r _ hc]
   omega
  ·omega
theorem UZ(most:Nat)(hm:1≤most):∀(l:List ah) (n:Nat),n≤most-1→(l=[]∨n<most-1→jR (fun p n=>max n (min p.dep (most-1))) (most-1) l n=min (max n (pF (l.map ah.dep))) (most-1))
 |[],n,h,_=>by unfold jR;simp only[List.map_nil,pF];omega
 |p::r,n,h,hh=>by
  have hn:n<most-1:=hh.resolve_left (by simp)
  unfold jR
  simp only[List.map_cons,pF]
  split
  ·rename_i hc
   rw[UZ most hm r _ (by omega) (.inr hc)]
   omega
  ·omega

theorem aiL(R:RB2)(v:ah)(f:ah→Nat→Nat)(lim:Nat)(b1:Int)(I:Nat→Prop)(hb:aP v.lf1≤100000000)
 (h3:∀p∈parts v,∀n:Nat,I n→R.m3 p n b1=some (decide (f p n<lim),(f p n:Int),b1)∧(f p n<lim→I (f p n))) (n:Nat) (hn:I n):
 Mo.den (Lp R v n b1)=some (((jR f lim (parts v) n:Nat):Int),b1):=by
 have hl:=fH v.aT
 have hd:=fK v.aW
 rw[dF] at hb
 unfold Lp
 simp only[Mo.den,au,aj,ak,ay,aA]
 by_cases h6:v.aF=6
 ·have e6:(v.aF==6)=true:=by simpa using h6
  have hp:parts v=v.aT:=by unfold parts;rw[if_pos h6,if_neg (by omega),List.append_nil]
  rw[e6,hp]
  simp only[cond_true]
  have key:Tot (afH R v 0 n b1) (fun r=>match r with|.inl o=>o=(((jR f lim v.aT n:Nat):Int),b1)|.inr o=>o=(((jR f lim v.aT n:Nat):Int),b1)):=by
   refine T.nV v.aT.length (by omega) (fun k s=>∃m:Nat,s=((k:Int),(m:Int),b1)∧I m∧jR f lim v.aT n=jR f lim (v.aT.drop k) m) _ ⟨n,rfl,hn,rfl⟩ ?_ ?_
   ·rintro k s hk ⟨m,rfl,hm,he⟩
    have hx:=List.getElem?_eq_getElem hk
    have hdr:v.aT.drop k=v.aT[k]::v.aT.drop (k+1):=List.drop_eq_getElem_cons hk
    obtain⟨q1,q2⟩:=h3 v.aT[k] (by rw[hp];exact List.getElem_mem hk) m hm
    simp only[Aq,Mo.den,au,aj,ak,ay,aA,ltt hx,gid hx,cond_true,Option.bind_some,q1]
    rw[hdr,xI] at he
    by_cases hc:f v.aT[k] m<lim
    ·rw[if_pos hc] at he
     rw[decide_eq_true hc]
     exact T.ret ⟨_,by rw[inc k (by omega)],q2 hc,he⟩
    ·rw[if_neg hc] at he
     rw[decide_eq_false hc]
     exact T.ret (show _=_ by rw[he])
   ·rintro s ⟨m,rfl,hm,he⟩
    rw[List.drop_length] at he
    have he:jR f lim v.aT n=m:=he
    simp only[Aq,Mo.den,au,aj,ak,ay,aA,ltn,cond_false]
    exact T.ret (show _=_ by rw[he])
  obtain⟨r,h,hr⟩:=key
  rw[h]
  rcases r with r|r
  ·have hr:r=_:=hr
   subst hr;rfl
  ·have hr:r=_:=hr
   subst hr;rfl
 ·have e6:(v.aF==6)=false:=by simpa using h6
  by_cases h5:v.aF=5
  ·have e5:(v.aF==5)=true:=by simpa using h5
   have hp:parts v=v.aW.map aJ.fValue:=by unfold parts;rw[if_neg h6,if_pos h5,List.nil_append]
   rw[e6,e5,hp]
   simp only[cond_true,cond_false]
   have key:Tot (afI R v 0 n b1) (fun r=>match r with|.inl o=>o=(((jR f lim (v.aW.map aJ.fValue) n:Nat):Int),b1)|.inr o=>o=(((jR f lim (v.aW.map aJ.fValue) n:Nat):Int),b1)):=by
    refine T.nV v.aW.length (by omega) (fun k s=>∃m:Nat,s=((k:Int),(m:Int),b1)∧I m∧jR f lim (v.aW.map aJ.fValue) n=jR f lim ((v.aW.drop k).map aJ.fValue) m) _ ⟨n,rfl,hn,rfl⟩ ?_ ?_
    ·rintro k s hk ⟨m,rfl,hm,he⟩
     have hx:=List.getElem?_eq_getElem hk
     have hdr:v.aW.drop k=v.aW[k]::v.aW.drop (k+1):=List.drop_eq_getElem_cons hk
     obtain⟨q1,q2⟩:=h3 v.aW[k].fValue (by rw[hp];exact List.mem_map.2 ⟨_,List.getElem_mem hk,rfl⟩) m hm
     simp only[Ar,Mo.den,au,aj,ak,ay,aA,ltt hx,gid hx,cond_true,Option.bind_some,q1]
     rw[hdr,List.map_cons,xI] at he
     by_cases hc:f v.aW[k].fValue m<lim
     ·rw[if_pos hc] at he
      rw[decide_eq_true hc]
      exact T.ret ⟨_,by rw[inc k (by omega)],q2 hc,he⟩
     ·rw[if_neg hc] at he
      rw[decide_eq_false hc]
      exact T.ret (show _=_ by rw[he])
    ·rintro s ⟨m,rfl,hm,he⟩
     rw[List.drop_length,List.map_nil] at he
     have he:jR f lim (v.aW.map aJ.fValue) n=m:=he
     simp only[Ar,Mo.den,au,aj,ak,ay,aA,ltn,cond_false]
     exact T.ret (show _=_ by rw[he])
   obtain⟨r,h,hr⟩:=key
   rw[h]
   rcases r with r|r
   ·have hr:r=_:=hr
    subst hr;rfl
   ·have hr:r=_:=hr
    subst hr;rfl
  ·have e5:(v.aF==5)=false:=by simpa using h5
   have hp:parts v=[]:=by unfold parts;rw[if_neg h6,if_neg h5];rfl
   rw[e6,e5,hp]
   rfl

theorem aiM(R:RB3)(v:ah)(f:ah→Nat→Nat)(lim:Nat)(b1:Int)(I:Nat→Prop)(hb:aP v.lf1≤100000000)
 (h3:∀p∈parts v,∀n:Nat,I n→R.m3 p n b1=some (decide (f p n<lim),(f p n:Int),b1)∧(f p n<lim→I (f p n))) (n:Nat) (hn:I n):
 Mo.den (Lr R v n b1)=some (((jR f lim (parts v) n:Nat):Int),b1):=by
 have hl:=fH v.aT
 have hd:=fK v.aW
 rw[dF] at hb
 unfold Lr
 simp only[Mo.den,au,aj,ak,ay,aA]
 by_cases h6:v.aF=6
 ·have e6:(v.aF==6)=true:=by simpa using h6
  have hp:parts v=v.aT:=by unfold parts;rw[if_pos h6,if_neg (by omega),List.append_nil]
  rw[e6,hp]
  simp only[cond_true]
  have key:Tot (afJ R v 0 n b1) (fun r=>match r with|.inl o=>o=(((jR f lim v.aT n:Nat):Int),b1)|.inr o=>o=(((jR f lim v.aT n:Nat):Int),b1)):=by
   refine T.nV v.aT.length (by omega) (fun k s=>∃m:Nat,s=((k:Int),(m:Int),b1)∧I m∧jR f lim v.aT n=jR f lim (v.aT.drop k) m) _ ⟨n,rfl,hn,rfl⟩ ?_ ?_
   ·rintro k s hk ⟨m,rfl,hm,he⟩
    have hx:=List.getElem?_eq_getElem hk
    have hdr:v.aT.drop k=v.aT[k]::v.aT.drop (k+1):=List.drop_eq_getElem_cons hk
    obtain⟨q1,q2⟩:=h3 v.aT[k] (by rw[hp];exact List.getElem_mem hk) m hm
    simp only[Au,Mo.den,au,aj,ak,ay,aA,ltt hx,gid hx,cond_true,Option.bind_some,q1]
    rw[hdr,xI] at he
    by_cases hc:f v.aT[k] m<lim
    ·rw[if_pos hc] at he
     rw[decide_eq_true hc]
     exact T.ret ⟨_,by rw[inc k (by omega)],q2 hc,he⟩
    ·rw[if_neg hc] at he
     rw[decide_eq_false hc]
     exact T.ret (show _=_ by rw[he])
   ·rintro s ⟨m,rfl,hm,he⟩
    rw[List.drop_length] at he
    have he:jR f lim v.aT n=m:=he
    simp only[Au,Mo.den,au,aj,ak,ay,aA,ltn,cond_false]
    exact T.ret (show _=_ by rw[he])
  obtain⟨r,h,hr⟩:=key
  rw[h]
  rcases r with r|r
  ·have hr:r=_:=hr
   subst hr;rfl
  ·have hr:r=_:=hr
   subst hr;rfl
 ·have e6:(v.aF==6)=false:=by simpa using h6
  by_cases h5:v.aF=5
  ·have e5:(v.aF==5)=true:=by simpa using h5
   have hp:parts v=v.aW.map aJ.fValue:=by unfold parts;rw[if_neg h6,if_pos h5,List.nil_append]
   rw[e6,e5,hp]
   simp only[cond_true,cond_false]
   have key:Tot (afK R v 0 n b1) (fun r=>match r with|.inl o=>o=(((jR f lim (v.aW.map aJ.fValue) n:Nat):Int),b1)|.inr o=>o=(((jR f lim (v.aW.map aJ.fValue) n:Nat):Int),b1)):=by
    refine T.nV v.aW.length (by omega) (fun k s=>∃m:Nat,s=((k:Int),(m:Int),b1)∧I m∧jR f lim (v.aW.map aJ.fValue) n=jR f lim ((v.aW.drop k).map aJ.fValue) m) _ ⟨n,rfl,hn,rfl⟩ ?_ ?_
    ·rintro k s hk ⟨m,rfl,hm,he⟩
     have hx:=List.getElem?_eq_getElem hk
     have hdr:v.aW.drop k=v.aW[k]::v.aW.drop (k+1):=List.drop_eq_getElem_cons hk
     obtain⟨q1,q2⟩:=h3 v.aW[k].fValue (by rw[hp];exact List.mem_map.2 ⟨_,List.getElem_mem hk,rfl⟩) m hm
     simp only[Aw,Mo.den,au,aj,ak,ay,aA,ltt hx,gid hx,cond_true,Option.bind_some,q1]
     rw[hdr,List.map_cons,xI] at he
     by_cases hc:f v.aW[k].fValue m<lim
     ·rw[if_pos hc] at he
      rw[decide_eq_true hc]
      exact T.ret ⟨_,by rw[inc k (by omega)],q2 hc,he⟩
     ·rw[if_neg hc] at he
      rw[decide_eq_false hc]
      exact T.ret (show _=_ by rw[he])
    ·rintro s ⟨m,rfl,hm,he⟩
     rw[List.drop_length,List.map_nil] at he
     have he:jR f lim (v.aW.map aJ.fValue) n=m:=he
     simp only[Aw,Mo.den,au,aj,ak,ay,aA,ltn,cond_false]
     exact T.ret (show _=_ by rw[he])
   obtain⟨r,h,hr⟩:=key
   rw[h]
   rcases r with r|r
   ·have hr:r=_:=hr
    subst hr;rfl
   ·have hr:r=_:=hr
    subst hr;rfl
  ·have e5:(v.aF==5)=false:=by simpa using h5
   have hp:parts v=[]:=by unfold parts;rw[if_neg h6,if_neg h5];rfl
   rw[e6,e5,hp]
   rfl

theorem aez:∀(F:Nat) (v:ah) (most:Nat),3*aP v.lf1≤F→aP v.lf1≤100000000→1≤most→most≤2000→(tK F).m1 v most=some ((min v.cnt most:Nat):Int):=by
 intro F
 induction F using Nat.strongRecOn with
 |_ F ih=>
 intro v most hF hb h1 h2
 have hp:=dF v
 obtain⟨F,rfl⟩:∃G,F=G+3:=⟨F-3,by omega⟩
 show Mo.den (V9 (tK (F+2)) v most)=_
 unfold V9
 simp only[Mo.den,au,aj,ak,ay,aA]
 by_cases hm:most=1
 ·subst hm
  have:=afx v
  rw[show min v.cnt 1=1 by omega]
  rfl
 ·rw[show((1:Int)==(most:Int))=false by rw[beq_eq_false_iff_ne];omega]
  have he:(tK (F+2)).m2 v 1 most=some (((min v.cnt most:Nat):Int),(most:Int)):=by
   show Mo.den (Lp (tK (F+1)) v 1 most)=_
   have:=aiL (tK (F+1)) v (fun p n=>n+min p.cnt (most-n)) most most (fun n=>n<most) hb (fun p hq n hn=>?_) 1 (show 1<most by omega)
   ·rw[show((1:Int))=((1:Nat):Int) from rfl,this,UY most _ 1 (by omega),←IB]
   ·refine⟨?_,fun h=>h⟩
    have hlt:=xH hq
    show Mo.den (Wh (tK F) p n most)=_
    unfold Wh
    have hsub:IntKind.wrap .i64 ((most:Int)-(n:Int))=((most-n:Nat):Int):=by rw[w64 (by omega) (by omega)];omega
    simp only[Mo.den,au,aj,ak,ay,aA,hsub,ih F (by omega) p (most-n) (by omega) (by omega) (by omega) (by omega),Option.bind_some]
    rw[w64 (by omega) (by omega),show(n:Int)+((min p.cnt (most-n):Nat):Int)=((n+min p.cnt (most-n):Nat):Int) by omega]
    congr 2
    rw[Bool.eq_iff_iff];simp only[decide_eq_true_iff];omega
  simp only[cond_false,he,Option.bind_some]
theorem aiN(v:ah)(hb:aP v.lf1≤100000000):atz v=some ((min v.cnt 1025:Nat):Int):=by
 simp only[atz,aky,Mo.den,au,aj,ak,ay,aA]
 have:awm v 1025=some ((min v.cnt 1025:Nat):Int):=aez FU v 1025 (by have:=fJ;omega) hb (by omega) (by omega)
 rw[this];rfl
theorem aeA:∀(F:Nat) (v:ah) (most:Nat),3*aP v.lf1≤F→aP v.lf1≤100000000→1≤most→most≤2000→(tN F).m1 v most=some ((min v.dep most:Nat):Int):=by
 intro F
 induction F using Nat.strongRecOn with
 |_ F ih=>
 intro v most hF hb h1 h2
 have hp:=dF v
 obtain⟨F,rfl⟩:∃G,F=G+3:=⟨F-3,by omega⟩
 show Mo.den (Wi (tN (F+2)) v most)=_
 unfold Wi
 simp only[Mo.den,au,aj,ak,ay,aA]
 have hpos:=afy v
 by_cases hm:most=1
 ·subst hm
  rw[show min v.dep 1=1 by omega]
  rfl
 ·rw[show((most:Int)==(1:Int))=false by rw[beq_eq_false_iff_ne];omega]
  have he:(tN (F+2)).m2 v 0 most=some (((min v.dep most-1:Nat):Int),(most:Int)):=by
   show Mo.den (Lr (tN (F+1)) v 0 most)=_
   have:=aiM (tN (F+1)) v (fun p n=>max n (min p.dep (most-1))) (most-1) most (fun n=>n<most-1) hb (fun p hq n hn=>?_) 0 (show 0<most-1 by omega)
   ·rw[show((0:Int))=((0:Nat):Int) from rfl, this, UZ most h1 _ 0 (by omega) (.inr (by omega))]
    have e:=IC v
    rw[show min (max 0 (pF ((parts v).map ah.dep))) (most-1)=min v.dep most-1 by omega]
   ·refine⟨?_,fun h=>h⟩
    have hlt:=xH hq
    show Mo.den (Wj (tN F) p n most)=_
    unfold Wj
    have hsub:IntKind.wrap .i64 ((most:Int)-1)=((most-1:Nat):Int):=by rw[w64 (by omega) (by omega)];omega
    simp only[Mo.den,au,aj,ak,ay,aA,hsub,ih F (by omega) p (most-1) (by omega) (by omega) (by omega) (by omega),Option.bind_some]
    rw[show(if((min p.dep (most-1):Nat):Int) > (n:Int) then((min p.dep (most-1):Nat):Int) else(n:Int))=((max n (min p.dep (most-1)):Nat):Int) by split<;>omega]
    congr 2
    rw[Bool.eq_iff_iff];simp only[decide_eq_true_iff];omega
  simp only[cond_false,he,Option.bind_some]
  rw[w64 (by omega) (by omega)]
  congr 1
  omega
theorem aiO(v:ah)(hb:aP v.lf1≤100000000):atA v=some ((min v.dep 17:Nat):Int):=by
 simp only[atA,akE,Mo.den,au,aj,ak,ay,aA]
 have:awn v 17=some ((min v.dep 17:Nat):Int):=aeA FU v 17 (by have:=fJ;omega) hb (by omega) (by omega)
 rw[this];rfl
end Go.Proofs.YtflpefkohpjjpaaGreatDoor
set_option linter.unusedSimpArgs false
set_option linter.unusedVariables false
namespace Go.Proofs.YtflpefkohpjjpaaGreatDoor
open Go.RowKit
theorem size_nil{s:ByteArray}(h:s.size<1):s=⟨#[]⟩:=by
 cases s with
 |mk d=>
  have h:d.size<1:=h
  have:d=#[]:=Array.eq_empty_of_size_eq_zero (by omega)
  rw[this]
theorem Yj{s:ByteArray}(h:¬s.size<1):¬s=⟨#[]⟩:=fun e=>h (by rw[e];exact Nat.zero_lt_one)


theorem Bo(s:ByteArray):Q79 s=some (nameB s):=by
 have key:s.size≤32→Tot (Ec s 0) (fun r=>match r with|.inl _=>s.data.toList.all (fun c=>tH c.toNat)=false|.inr _=>s.data.toList.all (fun c=>tH c.toNat)=true):=by
  intro h2
  refine T.nV s.size (by omega) (fun k v=>v=(k:Int)∧∀i (hi:i<s.size),i<k→tH s[i].toNat=true) _ ⟨rfl,fun i _ h=>absurd h (by omega)⟩ ?_ ?_
  ·rintro k v hk ⟨rfl,hv⟩
   have hc:tH s[k].toNat=(decide (33≤s[k].toNat)&&decide (s[k].toNat≤126)&&!(s[k].toNat==46)):=rfl
   have e46:((s[k].toNat:Int)==46)=(s[k].toNat==46):=by rw[Bool.eq_iff_iff];simp;omega
   simp only[pR,kY,kZ,Mo.den,au,aj,ak,ay,aA,iLt hk,cond_true,pz s k hk,Option.bind_some]
   by_cases a1:s[k].toNat<33
   ·rw[decide_eq_true (show(s[k].toNat:Int)<33 by omega)]
    simp only[cond_true,Option.bind_some]
    exact T.ret (wS s _ k hk (by rw[hc,decide_eq_false (show ¬33≤s[k].toNat by omega)];rfl))
   rw[decide_eq_false (show ¬(s[k].toNat:Int)<33 by omega)];simp only[cond_false,Option.bind_some]
   by_cases a2:126<s[k].toNat
   ·rw[decide_eq_true (show(126:Int)<(s[k].toNat:Int) by omega)]
    simp only[cond_true,Option.bind_some]
    exact T.ret (wS s _ k hk (by rw[hc,decide_eq_false (show ¬s[k].toNat≤126 by omega),Bool.and_false];rfl))
   rw[decide_eq_false (show ¬(126:Int)<(s[k].toNat:Int) by omega),e46];simp only[cond_false,Option.bind_some]
   cases a3:s[k].toNat==46 with
   |true=>
    simp only[cond_true]
    exact T.ret (wS s _ k hk (by rw[hc,a3,Bool.not_true,Bool.and_false]))
   |false=>
    simp only[cond_false]
    refine T.ret ⟨inc k (by omega),fun i hi hl=>?_⟩
    rcases Nat.lt_succ_iff_lt_or_eq.1 hl with h3|rfl
    ·exact hv i hi h3
    ·rw[hc,a3,decide_eq_true (show 33≤s[i].toNat by omega),decide_eq_true (show s[i].toNat≤126 by omega)];rfl
  ·rintro v ⟨rfl,hv⟩
   simp only[pR,Mo.den,au,aj,ak,ay,aA,ltn,cond_false]
   exact T.ret (VT s _ fun i hi=>hv i hi hi)
 unfold Q79 ZA kW kX
 simp only[Mo.den,au,aj,ak,ay,aA]
 by_cases h0:s.size<1
 ·rw[decide_eq_true (show(s.size:Int)<1 by omega)]
  rw[Gs s (by omega)];rfl
 rw[decide_eq_false (show ¬(s.size:Int)<1 by omega)];simp only[cond_false]
 by_cases h1:32<s.size
 ·rw[decide_eq_true (show(32:Int)<(s.size:Int) by omega),Gq s h1];rfl
 rw[decide_eq_false (show ¬(32:Int)<(s.size:Int) by omega)];simp only[Option.bind_some,cond_false]
 have hz:jY s 0=some s[0]:=pz s 0 (by omega)
 rw[hz,CW s (by omega) (by omega)]
 simp only[Option.bind_some]
 have e36:((s[0].toNat:Int)==36)=(s[0].toNat==36):=by rw[Bool.eq_iff_iff];simp;omega
 rw[e36]
 cases hq:s[0].toNat==36 with
 |true=>rfl
 |false=>
  obtain⟨r,h,hr⟩:=key (by omega)
  simp only[cond_false,Bool.not_false,Bool.true_and,h,Option.bind_some]
  rcases r with r|r
  ·have hr:_=false:=hr
   rw[hr];all_goals rfl
  ·have hr:_=true:=hr
   rw[hr];all_goals rfl

theorem rF(s:ByteArray):Q14 s=some (nameB s):=(show Q14 s=Q79 s by simp only[Q14,ar2,Qd,kZ,kY,kX,kW,Mo.den,au,aj,ak,ay,aA,Q79,ZA,Ec,pR,kZ,kY,kX,kW,Mo.den,au,aj,ak,ay,aA]).trans (Bo s)
theorem Bq(s:ByteArray):apW s=some (nameB s):=(show apW s=Q79 s by simp only[apW,ak2,MF,kZ,kY,kX,kW,Mo.den,au,aj,ak,ay,aA,Q79,ZA,Ec,pR,kZ,kY,kX,kW,Mo.den,au,aj,ak,ay,aA]).trans (Bo s)
theorem U0(s:ByteArray):Q84 s=some (nameB s):=by
 rw[←Bo s]
 have e:decide (s=(⟨#[]⟩:ByteArray))=decide ((s.size:Int)<1):=by
  by_cases h:s.size<1
  ·rw[decide_eq_true (size_nil h),decide_eq_true (by omega)]
  ·rw[decide_eq_false (Yj h),decide_eq_false (by omega)]
 simp only[Q84,ar4,Rf,QZ,QY,ZK,ZJ,Mo.den,au,aj,ak,ay,aA,Q79,ZA,Ec,pR,kZ,kY,kX,kW,Mo.den,au,aj,ak,ay,aA,e]

theorem aiP(s:ByteArray):atJ s=some (!nameB s):=by
 have key:s.size≤32→Tot (ZL s 0) (fun r=>match r with|.inl _=>s.data.toList.all (fun c=>tH c.toNat)=false|.inr _=>s.data.toList.all (fun c=>tH c.toNat)=true):=by
  intro h2
  refine T.nV s.size (by omega) (fun k v=>v=(k:Int)∧∀i (hi:i<s.size),i<k→tH s[i].toNat=true) _ ⟨rfl,fun i _ h=>absurd h (by omega)⟩ ?_ ?_
  ·rintro k v hk ⟨rfl,hv⟩
   have hc:tH s[k].toNat=(decide (33≤s[k].toNat)&&decide (s[k].toNat≤126)&&!(s[k].toNat==46)):=rfl
   have e46:((s[k].toNat:Int)==46)=(s[k].toNat==46):=by rw[Bool.eq_iff_iff];simp;omega
   simp only[wV,kY,kZ,Mo.den,au,aj,ak,ay,aA,iLt hk,cond_true,pz s k hk,Option.bind_some]
   by_cases a1:s[k].toNat<33
   ·rw[decide_eq_true (show(s[k].toNat:Int)<33 by omega)]
    simp only[cond_true,Option.bind_some]
    exact T.ret (wS s _ k hk (by rw[hc,decide_eq_false (show ¬33≤s[k].toNat by omega)];rfl))
   rw[decide_eq_false (show ¬(s[k].toNat:Int)<33 by omega)];simp only[cond_false,Option.bind_some]
   by_cases a2:126<s[k].toNat
   ·rw[decide_eq_true (show(126:Int)<(s[k].toNat:Int) by omega)]
    simp only[cond_true,Option.bind_some]
    exact T.ret (wS s _ k hk (by rw[hc,decide_eq_false (show ¬s[k].toNat≤126 by omega),Bool.and_false];rfl))
   rw[decide_eq_false (show ¬(126:Int)<(s[k].toNat:Int) by omega),e46];simp only[cond_false,Option.bind_some]
   cases a3:s[k].toNat==46 with
   |true=>
    simp only[cond_true]
    exact T.ret (wS s _ k hk (by rw[hc,a3,Bool.not_true,Bool.and_false]))
   |false=>
    simp only[cond_false]
    refine T.ret ⟨inc k (by omega),fun i hi hl=>?_⟩
    rcases Nat.lt_succ_iff_lt_or_eq.1 hl with h3|rfl
    ·exact hv i hi h3
    ·rw[hc,a3,decide_eq_true (show 33≤s[i].toNat by omega),decide_eq_true (show s[i].toNat≤126 by omega)];rfl
  ·rintro v ⟨rfl,hv⟩
   simp only[wV,Mo.den,au,aj,ak,ay,aA,ltn,cond_false]
   exact T.ret (VT s _ fun i hi=>hv i hi hi)
 unfold atJ akN kW kX
 simp only[Mo.den,au,aj,ak,ay,aA]
 by_cases h0:s.size<1
 ·rw[decide_eq_true (show(s.size:Int)<1 by omega)]
  rw[Gs s (by omega)];rfl
 rw[decide_eq_false (show ¬(s.size:Int)<1 by omega)];simp only[cond_false]
 by_cases h1:32<s.size
 ·rw[decide_eq_true (show(32:Int)<(s.size:Int) by omega),Gq s h1];rfl
 rw[decide_eq_false (show ¬(32:Int)<(s.size:Int) by omega)];simp only[Option.bind_some,cond_false]
 have hz:jY s 0=some s[0]:=pz s 0 (by omega)
 rw[hz,CW s (by omega) (by omega)]
 simp only[Option.bind_some]
 have e36:((s[0].toNat:Int)==36)=(s[0].toNat==36):=by rw[Bool.eq_iff_iff];simp;omega
 rw[e36]
 cases hq:s[0].toNat==36 with
 |true=>rfl
 |false=>
  obtain⟨r,h,hr⟩:=key (by omega)
  simp only[cond_false,Bool.not_false,Bool.true_and,h,Option.bind_some]
  rcases r with r|r
  ·have hr:_=false:=hr
   rw[hr];all_goals rfl
  ·have hr:_=true:=hr
   rw[hr];all_goals rfl


def hasB(n:ByteArray)(l:List ByteArray):Bool:=l.any fun m=>decide (n=m)
mutual
def ah.snd:ah→Bool
 |.mk k i s l d=>(Gt k i s l.length d.length&&KO k i s)&&(ah.kD l&&aJ.kD [] d)
def ah.kD:List ah→Bool
 |[]=>true
 |x::r=>x.snd&&ah.kD r
def aJ.kD:List ByteArray→List aJ→Bool
 |_,[]=>true
 |seen,.mk n x::r=>(nameB n&&!hasB n seen)&&(x.snd&&aJ.kD (n::seen) r)
end
theorem Oe:∀l:List ah,ah.kD l=l.all ah.snd
 |[]=>by unfold ah.kD;rfl
 |x::r=>by unfold ah.kD;rw[Oe r];rfl
def qc(l:List ByteArray):List (ByteArray×Bool):=l.map fun n=>(n,true)
theorem wB(n:ByteArray):∀l:List ByteArray,uX (qc l) n false=hasB n l
 |[]=>rfl
 |x::r=>by
  show(if n=x then true else uX (qc r) n false)=(decide (n=x)||hasB n r)
  rw[wB n r]
  by_cases h:n=x
  ·rw[if_pos h,decide_eq_true h];rfl
  ·rw[if_neg h,decide_eq_false h];rfl
theorem Og(seen:List ByteArray)(n:ByteArray)(x:ah)(r:List aJ):aJ.kD seen (.mk n x::r)=((nameB n&&!hasB n seen)&&(x.snd&&aJ.kD (n::seen) r)):=by rw[aJ.kD]
theorem U1(seen:List ByteArray):aJ.kD seen []=true:=by rw[aJ.kD]
theorem aeB(v:ah):v.snd=((Gt v.aF v.eF v.fText v.aT.length v.aW.length&&KO v.aF v.eF v.fText)&&(ah.kD v.aT&&aJ.kD [] v.aW)):=by
 cases v with
 |mk k i s l d=>rw[ah.snd];rfl
theorem abw(R:RB4)(l:List aJ)(hl:l.length≤100000000)(h1:∀x∈l,R.m1 x.fValue=some x.fValue.snd):Mo.den (afO R l)=some (aJ.kD [] l):=by
 unfold afO
 simp only[Mo.den,au,aj,ak,ay,aA]
 have key:Tot (afN R l 0 []) (fun r=>match r with|.inl _=>aJ.kD [] l=false|.inr _=>aJ.kD [] l=true):=by
  refine T.nV l.length (by omega) (fun k s=>∃m:List ByteArray,m.length=k∧s=((k:Int),qc m)∧aJ.kD [] l=aJ.kD m (l.drop k)) _ ⟨[],rfl,rfl,rfl⟩ ?_ ?_
  ·rintro k s hk ⟨m,hm,rfl,he⟩
   have hx:=List.getElem?_eq_getElem hk
   have hdr:l.drop k=l[k]::l.drop (k+1):=List.drop_eq_getElem_cons hk
   have q1:=h1 l[k] (List.getElem_mem hk)
   rw[hdr] at he
   obtain⟨n,x⟩:∃n x,l[k]=aJ.mk n x:=by cases l[k] with|mk n x=>exact⟨n,x,rfl⟩
   obtain⟨x,e⟩:=x
   rw[e] at q1 he
   rw[Og] at he
   unfold AA
   simp only[ZE,ZF,Mo.den,au,aj,ak,ay,aA,ltt hx,gid hx,cond_true,Option.bind_some,e,aJ.fName,aJ.fValue,Bo,wB]
   simp only[aJ.fValue] at q1
   rw[q1]
   cases a:nameB n with
   |false=>rw[a] at he;exact T.ret (show _=false by rw[he];rfl)
   |true=>
    cases b:hasB n m with
    |true=>rw[a,b] at he;exact T.ret (show _=false by rw[he];rfl)
    |false=>
     cases c:x.snd with
     |false=>rw[a,b,c] at he;exact T.ret (show _=false by rw[he];rfl)
     |true=>
      rw[a,b,c] at he
      refine T.grd (by rw[qc,List.length_map];unfold maxLen;omega) (T.ret ⟨n::m,by simp[hm],by rw[inc k (by omega)];rfl,by rw[he];rfl⟩)
  ·rintro s ⟨m,hm,rfl,he⟩
   rw[List.drop_length,U1] at he
   unfold AA
   simp only[Mo.den,au,aj,ak,ay,aA,ltn,cond_false]
   exact T.ret he
 obtain⟨r,h,hr⟩:=key
 rw[h]
 rcases r with r|r
 ·have hr:_=false:=hr
  rw[hr];all_goals rfl
 ·have hr:_=true:=hr
  rw[hr];all_goals rfl
theorem aiQ(R:RB4)(v:ah)(hl:v.aT.length≤100000000)(h1:∀x∈v.aT,R.m1 x=some x.snd):Tot (afL R v 0) (fun r=>match r with|.inl _=>ah.kD v.aT=false|.inr _=>ah.kD v.aT=true):=by
 rw[Oe]
 refine T.nV v.aT.length (by omega) (fun k s=>s=(k:Int)∧(v.aT.take k).all ah.snd=true) _ ⟨rfl,by simp⟩ ?_ ?_
 ·rintro k s hk ⟨rfl,he⟩
  have hx:=List.getElem?_eq_getElem hk
  simp only[Az,Mo.den,au,aj,ak,ay,aA,ltt hx,gid hx,cond_true,Option.bind_some,h1 _ (List.getElem_mem hk)]
  cases c:v.aT[k].snd with
  |false=>exact T.ret (Yi _ hx c)
  |true=>exact T.ret ⟨inc k (by omega),by rw[zn _ hx,he,c];rfl⟩
 ·rintro s ⟨rfl,he⟩
  simp only[Az,Mo.den,au,aj,ak,ay,aA,ltn,cond_false]
  rw[List.take_length] at he
  exact T.ret he
theorem aeC:∀(F:Nat) (v:ah),2*aP v.lf1≤F→aP v.lf1≤100000000→(yI F).m1 v=some v.snd:=by
 intro F
 induction F using Nat.strongRecOn with
 |_ F ih=>
 intro v hF hb
 have hp:=dF v
 have hl:=fH v.aT
 have hd:=fK v.aW
 obtain⟨F,rfl⟩:∃G,F=G+2:=⟨F-2,by omega⟩
 show Mo.den (afM (yI (F+1)) v)=_
 have hL:=aiQ (yI (F+1)) v (by omega) fun x hx=>ih (F+1) (by omega) x (by have:=gJ hx;omega) (by have:=gJ hx;omega)
 have hD:(yI (F+1)).m2 v.aW=some (aJ.kD [] v.aW):=abw (yI F) v.aW (by omega) fun x hx=>ih F (by omega) x.fValue (by have:=fE hx;rw[dY] at this;omega) (by have:=fE hx;rw[dY] at this;omega)
 obtain⟨r0,hL,hr0⟩:=hL
 clear ih hF hb hp hl hd
 rw[aeB]
 unfold afM
 simp only[ZB,ZC,QI,QJ,QK,QL,QM,QN,QO,QS,QT,QU,QV,Mo.den,au,aj,ak,ay,aA,hL,hD,atb]
 clear hL hD
 generalize v.aF=k at *
 generalize v.eF=i at *
 generalize v.fText=s at *
 generalize v.aT=l at *
 generalize v.aW=d at *
 unfold Gt KO
 have ei:(i != 0)=!(i==0):=rfl
 have es:∀dd:Decidable (s=(⟨#[]⟩:ByteArray)),@decide _ dd=decide (s.size=0):=fun dd=>by
  by_cases h:s.size=0
  ·rw[decide_eq_true h,decide_eq_true (size_nil (by omega))]
  ·rw[decide_eq_false h,decide_eq_false (Yj (by omega))]
 have el:decide ((0:Int)<(l.length:Int))=!(l.length==0):=by
  cases l with
  |nil=>rfl
  |cons x r=>rw[decide_eq_true (show(0:Int)<((x::r).length:Int) by rw[List.length_cons];omega)];rfl
 have ed:decide ((0:Int)<(d.length:Int))=!(d.length==0):=by
  cases d with
  |nil=>rfl
  |cons x r=>rw[decide_eq_true (show(0:Int)<((x::r).length:Int) by rw[List.length_cons];omega)];rfl
 simp only[ei,es,el,ed]
 have e4:decide ((s.size:Int)≤4096)=decide (s.size≤4096):=by rw[Bool.eq_iff_iff];simp;omega
 have e12:((s.size:Int)==12)=decide (s.size=12):=by rw[Bool.eq_iff_iff];simp;omega
 simp only[e4,e12]
 have hl0:(l.length==0)=true→ah.kD l=true:=fun h=>by
  have:l=[]:=List.eq_nil_of_length_eq_zero (by simpa using h)
  rw[this];unfold ah.kD;rfl
 have hd0:(d.length==0)=true→aJ.kD [] d=true:=fun h=>by
  have:d=[]:=List.eq_nil_of_length_eq_zero (by simpa using h)
  rw[this];unfold aJ.kD;rfl
 clear ei es el ed e4 e12
 generalize ah.kD l=A at *
 generalize aJ.kD [] d=B at *
 generalize (l.length==0)=nl at *
 generalize (d.length==0)=nd at *
 generalize xX s=u at *
 generalize decide (s.size≤4096)=c1 at *
 generalize decide (s.size=12)=c2 at *
 generalize decide (s.size=0)=c3 at *
 have hk:k=1∨k=2∨k=3∨k=4∨k=5∨k=6∨k=7∨k=8∨k=9∨k=10∨k=11∨(k≠1∧k≠2∧k≠3∧k≠4∧k≠5∧k≠6∧k≠7∧k≠8∧k≠9∧k≠10∧k≠11):=by omega
 rcases hk with rfl|rfl|rfl|rfl|rfl|rfl|rfl|rfl|rfl|rfl|rfl|⟨n1,n2,n3,n4,n5,n6,n7,n8,n9,n10,n11⟩
 case inr.inr.inr.inr.inr.inr.inr.inr.inr.inr.inr=>
  have f:∀c:Int,k≠c→(k==c)=false:=fun c h=>by simpa using h
  simp only[bne,f _ n1,f _ n2,f _ n3,f _ n4,f _ n5,f _ n6,f _ n7,f _ n8,f _ n9,f _ n10,f _ n11]
  simp only[n1,n2,n3,n4,n5,n6,n7,n8,n9,n10,n11,or_self,if_false,decide_false]
  cases nl<;>cases nd<;>cases c3<;>cases (i==0)<;>rfl
 all_goals (rcases r0 with r0|r0<;>(have hr0:A=_:=hr0;subst hr0))
 all_goals simp(decide:=true) only[if_true,if_false]
 all_goals (cases nl<;>cases nd<;>cases c3<;>cases (i==0)<;>first|rfl|skip)
 all_goals (first|(cases B<;>first|rfl|(exact absurd (hl0 rfl) (by decide))|(exact absurd (hd0 rfl) (by decide))|skip)|skip)
 all_goals (cases u<;>cases c1<;>cases c2<;>first|rfl|(cases (i==1)<;>rfl)|(cases decide (0≤i)<;>rfl))
theorem aiR(v:ah)(hb:aP v.lf1≤100000000):Q25 v=some v.snd:=aeC FU v (by have:=fJ;omega) hb
def lX(v:ah):Bool:=decide (v.cnt≤1024)&&(decide (v.dep≤16)&&v.snd)
theorem kF(v:ah)(hb:aP v.lf1≤100000000):apk v=some (lX v):=by
 simp only[apk,akG,Mo.den,au,aj,ak,ay,aA,aiN v hb,aiO v hb,aiR v hb,Option.bind_some,lX]
 rw[show decide (((min v.cnt 1025:Nat):Int)≤1024)=decide (v.cnt≤1024) by rw[Bool.eq_iff_iff];simp;omega,show decide (((min v.dep 17:Nat):Int)≤16)=decide (v.dep≤16) by rw[Bool.eq_iff_iff];simp;omega]
 cases decide (v.cnt≤1024)<;>cases decide (v.dep≤16)<;>rfl
end Go.Proofs.YtflpefkohpjjpaaGreatDoor
set_option linter.unusedSimpArgs false
set_option linter.unusedVariables false
namespace Go.Proofs.YtflpefkohpjjpaaGreatDoor
open Go.RowKit
def muR(r:aB):Nat:=if r.dS=true then 0 else((r.iM.size:Int)-r.fat).toNat+1
structure RdI (s:ByteArray) (r:aB):Prop where
 tx:r.iM=s
 a0:0≤r.fat
 a1:r.fat≤s.size
 l0:0≤r.fQ
 l1:r.fQ≤64
structure RC (s:ByteArray) (r r':aB) (z c:Nat):Prop where
 i:RdI s r'
 l:r'.fQ=r.fQ
 m0:muR r=0→muR r'=0∧z≤c
 m1:1≤muR r→muR r'<muR r∧z+100≤100*(muR r-muR r')+c
theorem RC.seq{s:ByteArray}{r r1 r2:aB}{z1 c1 z2 c2:Nat}(h:RC s r r1 z1 c1)(k:RC s r1 r2 z2 c2)(hc:c2≤100):RC s r r2 (z1+z2) (c1+c2):=by
 refine⟨k.i,k.l.trans h.l,fun h0=>?_,fun h1=>?_⟩
 ·obtain⟨a1,a2⟩:=h.m0 h0
  obtain⟨b1,b2⟩:=k.m0 a1
  exact⟨b1,by omega⟩
 ·obtain⟨a1,a2⟩:=h.m1 h1
  rcases Nat.eq_zero_or_pos (muR r1) with h0|h0
  ·obtain⟨b1,b2⟩:=k.m0 h0
   exact⟨by omega,by omega⟩
  ·obtain⟨b1,b2⟩:=k.m1 h0
   exact⟨by omega,by omega⟩
theorem RC.z{s:ByteArray}{r r':aB}{z c z' c':Nat}(h:RC s r r' z c)(hz:z'≤z)(hc:c≤c'):RC s r r' z' c':=
 ⟨h.i,h.l,fun h0=>⟨(h.m0 h0).1,by have:=(h.m0 h0).2;omega⟩,fun h1=>⟨(h.m1 h1).1,by have:=(h.m1 h1).2;omega⟩⟩
theorem avR{r:aB}(h:r.dS=true):muR r=0:=by unfold muR;rw[if_pos h]
theorem RC.bad{s:ByteArray}{r r':aB}(hi:RdI s r')(hl:r'.fQ=r.fQ)(hb:r'.dS=true):RC s r r' 1 1:=by
 have:=avR hb
 exact⟨hi,hl,fun _=>⟨this,Nat.le_refl _⟩,fun h=>⟨by omega,by omega⟩⟩
end Go.Proofs.YtflpefkohpjjpaaGreatDoor
set_option linter.unusedSimpArgs false
set_option linter.unusedVariables false
namespace Go.Proofs.YtflpefkohpjjpaaGreatDoor
open Go.RowKit
theorem T.avS{α ρ:Type}{F:Int×List α→Option ((Int×List α)⊕ρ)}(Q:ρ→Prop)(step:∀(k:Nat) (m:List α),k≤100000000→m.length≤k→Tot (F ((k:Int),m)) (LP (fun v=>v.1=IntKind.wrap .i64 ((k:Int)+1)∧v.2.length≤k+1∧k<100000000) Q)):Tot (bV F FU (0,[])) Q:=
 T.arG (fun v=>v.1) (fun v=>(v.2.length:Int)≤v.1) Q rfl (Int.le_refl _) fun k s hk hs hP=>by
  obtain⟨i,m⟩:=s
  obtain rfl:i=(k:Int):=hs
  have hP:(m.length:Int)≤(k:Int):=hP
  refine T.mono (step k m hk (by omega)) ?_
  rintro(v|r) h
  ·refine⟨h.1,?_,h.2.2⟩
   have h1:=h.1
   have h2:=h.2.1
   show(v.2.length:Int)≤v.1
   rw[h1,inc k (by omega)];omega
  ·exact h
theorem je(v:ah)(h:aP v.lf1≤100000000):Tot (apk v) Any:=⟨_,kF v h,trivial⟩
theorem Fg(a b:ByteArray):atc a b=some (CX a b):=rfl
theorem Yl(p:List ByteArray)(h:p.length≤100000000):atL p=some (!(p.all nameB)):=by
 have key:Tot (akO p 0) (fun r=>match r with|.inl k=>0≤k∧p.all nameB=false|.inr _=>p.all nameB=true):=by
  refine T.nV p.length (by omega) (fun k s=>s=(k:Int)∧(p.take k).all nameB=true) _ ⟨rfl,by simp⟩ ?_ ?_
  ·rintro k s hk ⟨rfl,hv⟩
   have hx:=List.getElem?_eq_getElem hk
   simp only[Ed,Mo.den,au,aj,ak,ay,aA,ltt hx,gid hx,cond_true,Option.bind_some,aiP]
   cases hb:nameB p[k] with
   |false=>exact T.ret ⟨by omega,Yi _ hx hb⟩
   |true=>exact T.ret ⟨inc k (by omega),by rw[zn _ hx,hv,hb];rfl⟩
  ·rintro s ⟨rfl,hv⟩
   simp only[Ed,Mo.den,au,aj,ak,ay,aA,ltn,cond_false]
   exact T.ret (show p.all nameB=true by rw[List.take_length] at hv;exact hv)
 obtain⟨r,h1,hr⟩:=key
 simp only[atL,akP,Q96,ar5,Mo.den,au,aj,ak,ay,aA,h1,Option.bind_some]
 rcases r with r|r
 ·have hr:0≤r∧p.all nameB=false:=hr
  rw[hr.2]
  show some (decide (0≤r))=_
  rw[decide_eq_true hr.1];rfl
 ·have hr:p.all nameB=true:=hr
  rw[hr];rfl
theorem l9(p:List ByteArray):apv p=some (uf p):=by
 unfold apv akQ Rh Ri wW uf
 simp only[Mo.den,au,aj,ak,ay,aA]
 by_cases h0:1≤p.length
 ·rw[decide_eq_true (show(1:Int)≤(p.length:Int) by omega), decide_eq_true h0]
  by_cases h1:p.length≤16
  ·rw[decide_eq_true (show(p.length:Int)≤16 by omega), decide_eq_true h1]
   simp only[cond_true,Option.bind_some,Yl p (by omega),Bool.not_not,Bool.true_and]
  ·rw[decide_eq_false (show ¬(p.length:Int)≤16 by omega),decide_eq_false h1];rfl
 ·rw[decide_eq_false (show ¬(1:Int)≤(p.length:Int) by omega),decide_eq_false h0];rfl
theorem Oh(x:Int):0≤IntKind.wrap .u64 x∧IntKind.wrap .u64 x<18446744073709551616:=by
 rw[ng];omega
theorem avT{v:Int}(h:0≤v):yh .u64 v 7=((v.toNat/128:Nat):Int):=by
 obtain⟨a,rfl⟩:=Int.eq_ofNat_of_zero_le h
 rw[Int.toNat_natCast]
 show Int.fdiv (a:Int) (2^min (7:Int).toNat (IntKind.u64).bits)=_
 rw[show(2:Int)^min (7:Int).toNat (IntKind.u64).bits=((128:Nat):Int) from rfl,Int.fdiv_eq_ediv_of_nonneg _ (by omega)]
 omega
def grp(k:Nat)(v:Int):Prop:=0≤v∧v.toNat*128^k<18446744073709551616
theorem grp.next{k:Nat}{v:Int}(h:grp k v):grp (k+1) (yh .u64 v 7):=by
 rw[avT h.1]
 refine⟨by omega,?_⟩
 rw[Int.toNat_natCast,Nat.pow_succ,Nat.mul_comm (128^k) 128,←Nat.mul_assoc]
 exact Nat.lt_of_le_of_lt (Nat.mul_le_mul_right _ (Nat.div_mul_le_self _ _)) h.2
theorem grp.last{v:Int}(h:grp 10 v):decide ((128:Int)≤v)=false:=by
 have h1:=h.1
 have h2:=h.2
 refine decide_eq_false ?_
 have:(128:Nat)^10=1180591620717411303424:=by decide
 rw[this] at h2
 omega
theorem Ym(n:Int):∃u,ah0 n=some u∧grp 0 u:=by
 simp only[ah0,acY,Mo.den,au,aj,ak,ay,aA]
 refine⟨_,rfl,?_⟩
 have h:∀a b:Int,0≤eU .xor .u64 a b∧eU .xor .u64 a b<18446744073709551616:=fun a b=>Oh _
 have:=h (F7 .u64 (IntKind.wrap .u64 n) 1) (IntKind.wrap .u64 (yh .i64 n 63))
 exact⟨this.1,by rw[Nat.pow_zero];omega⟩
theorem jK(n:Int):Tot (Q67 n) Any:=by
 obtain⟨u,hu,hg⟩:=Ym n
 unfold Q67 akJ
 simp only[Mo.den,au,aj,ak,ay,aA,hu,Option.bind_some]
 refine T.bind (R:=Any) (T.nV 10 (by omega) (fun k s=>grp k s.2) _ hg ?_ ?_) fun _ _=>T.any
 ·rintro k ⟨c,v⟩ hk hv
  simp only[rQ,Mo.den,au,aj,ak,ay,aA]
  exact T.ite (fun _=>T.ret hv.next) fun _=>T.ret trivial
 ·rintro⟨c,v⟩ hv
  have hv:grp 10 v:=hv
  simp only[rQ,Mo.den,au,aj,ak,ay,aA,hv.last,cond_false]
  exact T.ret trivial
theorem gI(n:Int)(l:List Int)(hl:l.length≤100000000000):Tot (Q53 n l) (fun r=>r.length≤l.length+11):=by
 obtain⟨u,hu,hg⟩:=Ym n
 unfold Q53 alb
 simp only[Mo.den,au,aj,ak,ay,aA,hu,Option.bind_some]
 refine T.bind (R:=fun r=>r.2.length≤l.length+10) (T.nV 10 (by omega) (fun k s=>grp k s.1∧s.2.length=l.length+k) _ ⟨hg,rfl⟩ ?_ ?_) fun r hr=>T.grd (by simp only[List.length_cons,List.length_nil];omega) (T.ret ?_)
 ·rintro k ⟨v,m⟩ hk ⟨hv,hm⟩
  have hm:m.length=l.length+k:=hm
  simp only[yZ,Mo.den,au,aj,ak,ay,aA]
  refine T.ite (fun _=>T.grd (by simp only[List.length_cons,List.length_nil];omega) (T.ret ⟨hv.next,?_⟩)) fun _=>T.ret ?_
  ·rw[List.length_append,List.length_cons,List.length_nil];omega
  ·show m.length≤_;omega
 ·rintro⟨v,m⟩ ⟨hv,hm⟩
  have hv:grp 10 v:=hv
  have hm:m.length=l.length+10:=hm
  simp only[yZ,Mo.den,au,aj,ak,ay,aA,hv.last,cond_false]
  exact T.ret (by show m.length≤_;omega)
 ·rw[List.length_append,List.length_cons,List.length_nil];omega
end Go.Proofs.YtflpefkohpjjpaaGreatDoor
set_option linter.unusedSimpArgs false
set_option linter.unusedVariables false
namespace Go.Proofs.YtflpefkohpjjpaaGreatDoor
open Go.RowKit
theorem wC(p_kind:Int):Tot (akk p_kind) Any:=by
 show MT (Ld p_kind) Any
 repeat' (first|exact MT.any|refine MT.say ?_|refine MT.ite (fun _=>?_) (fun _=>?_))
theorem jL(p_v:ah):Tot (Q0 p_v) Any:=by
 show MT (apb p_v) Any
 repeat' (first|exact MT.any|refine MT.say ?_|refine MT.ite (fun _=>?_) (fun _=>?_)|refine MT.mY ?_ (fun _ _=>?_)|refine⟨(show MT _ Any from ?_)⟩)
theorem zo(p_s:aI):Tot (Q22 p_s) Any:=by
 show MT (akl p_s) Any
 repeat' (first|exact MT.any|refine MT.say ?_|refine MT.ite (fun _=>?_) (fun _=>?_)|refine MT.mY ?_ (fun _ _=>?_)|exact⟨T.wk (jL _)⟩|refine⟨(show MT _ Any from ?_)⟩)
theorem BF(p_d:bW):Tot (Q85 p_d) Any:=by
 show MT (akm p_d) Any
 repeat' (first|exact MT.any|refine MT.say ?_|refine MT.ite (fun _=>?_) (fun _=>?_)|refine MT.mY ?_ (fun _ _=>?_)|exact⟨T.wk (zo _)⟩|refine⟨(show MT _ Any from ?_)⟩)
theorem Dl(p_e:aQ):Tot (Q11 p_e) Any:=by
 show MT (akn p_e) Any
 repeat' (first|exact MT.any|refine MT.say ?_|refine MT.ite (fun _=>?_) (fun _=>?_)|refine MT.mY ?_ (fun _ _=>?_)|exact⟨T.wk (jL _)⟩|refine⟨(show MT _ Any from ?_)⟩)
theorem Dn(p_p:aO):Tot (Q17 p_p) Any:=by
 show MT (ako p_p) Any
 repeat' (first|exact MT.any|refine MT.say ?_|refine MT.ite (fun _=>?_) (fun _=>?_)|refine MT.mY ?_ (fun _ _=>?_)|exact⟨T.wk (Dl _)⟩|exact⟨T.wk (jL _)⟩|refine⟨(show MT _ Any from ?_)⟩)
theorem BG(p_x:aS):Tot (Q62 p_x) Any:=by
 show MT (akp p_x) Any
 repeat' (first|exact MT.any|refine MT.say ?_|refine MT.ite (fun _=>?_) (fun _=>?_)|refine MT.mY ?_ (fun _ _=>?_)|exact⟨T.wk (Dn _)⟩|refine⟨(show MT _ Any from ?_)⟩)
theorem BH(p_w:aG):Tot (Q28 p_w) Any:=by
 show MT (akq p_w) Any
 repeat' (first|exact MT.any|refine MT.say ?_|refine MT.ite (fun _=>?_) (fun _=>?_)|refine MT.mY ?_ (fun _ _=>?_)|exact⟨T.wk (BG _)⟩|exact⟨T.wk (BF _)⟩|exact⟨T.wk (jL _)⟩|refine⟨(show MT _ Any from ?_)⟩)
theorem lM(p_w:aG):Tot (Q24 p_w) Any:=by
 show MT (akr p_w) Any
 refine MT.ask (R:=Any) ?_ ?_
 ·exact T.wk (wC p_w.aF)
 ·intro r269 h270 _
  refine MT.say (MT.ask (R:=Any) ?_ ?_)
  ·show MT (Lh p_w r269) Any
   refine MT.ite (fun c272=>?_) (fun c272=>?_)
   ·exact MT.say MT.any
   ·exact MT.say MT.any
  ·intro r274 h275 _
   refine MT.say (MT.ask (R:=Any) ?_ ?_)
   ·show MT (Lj r269 r274) Any
    refine MT.ite (fun c277=>?_) (fun c277=>?_)
    ·exact MT.say MT.any
    ·exact MT.say MT.any
   ·intro r279 h280 _
    refine MT.say (MT.ask (R:=Any) ?_ ?_)
    ·show MT (Gy r269 r279) Any
     refine MT.ite (fun c282=>?_) (fun c282=>?_)
     ·exact MT.say MT.any
     ·exact MT.say MT.any
    ·intro r284 h285 _
     refine MT.say (MT.ask (R:=Any) ?_ ?_)
     ·show MT (Gz r269 r284) Any
      refine MT.ite (fun c287=>?_) (fun c287=>?_)
      ·exact MT.say MT.any
      ·exact MT.say MT.any
     ·intro r289 h290 _
      refine MT.say (MT.ask (R:=Any) ?_ ?_)
      ·show MT (GH r269 r289) Any
       refine MT.ite (fun c292=>?_) (fun c292=>?_)
       ·exact MT.say MT.any
       ·exact MT.say MT.any
      ·intro r294 h295 _
       refine MT.say (MT.ask (R:=Any) ?_ ?_)
       ·show MT (GK r269 r294) Any
        refine MT.ite (fun c297=>?_) (fun c297=>?_)
        ·exact MT.say MT.any
        ·exact MT.say MT.any
       ·intro r299 h300 _
        refine MT.say (MT.ask (R:=Any) ?_ ?_)
        ·show MT (GL r269 r299) Any
         refine MT.ite (fun c302=>?_) (fun c302=>?_)
         ·exact MT.say MT.any
         ·exact MT.say MT.any
        ·intro r304 h305 _
         refine MT.say (MT.ask (R:=Any) ?_ ?_)
         ·show MT (GN r269 r304) Any
          refine MT.ite (fun c307=>?_) (fun c307=>?_)
          ·exact MT.say MT.any
          ·exact MT.say MT.any
         ·intro r309 h310 _
          refine MT.say (MT.ask (R:=Any) ?_ ?_)
          ·show MT (GU r269 r309) Any
           refine MT.ite (fun c312=>?_) (fun c312=>?_)
           ·exact MT.say MT.any
           ·exact MT.say MT.any
          ·intro r314 h315 _
           refine MT.say (MT.ask (R:=Any) ?_ ?_)
           ·show MT (GV r269 r314) Any
            refine MT.ite (fun c317=>?_) (fun c317=>?_)
            ·exact MT.say MT.any
            ·exact MT.say MT.any
           ·intro r319 h320 _
            refine MT.say (MT.ask (R:=Any) ?_ ?_)
            ·exact T.wk (BH r319)
            ·intro r585 h586 _
             exact MT.say MT.any
theorem zq(p_w:aG):Tot (atx p_w) Any:=by
 show MT (acQ p_w) Any
 repeat' (first|exact MT.any|refine MT.say ?_|refine MT.ite (fun _=>?_) (fun _=>?_)|refine MT.mY ?_ (fun _ _=>?_)|refine⟨(show MT _ Any from ?_)⟩)
theorem yw(p_l:List Int)(h_p_l:bK (p_l.map lfI)≤100000000):Tot (Q57 p_l) Any:=by
 have:=zk p_l
 show MT (aks p_l) Any
 refine MT.say (MT.lI (R:=Any) ?_ ?_ ?_)
 ·refine T.cnt (fun _=>True) ?_
  intro k1 hk1
  show MT (uZ p_l ((k1:Nat):Int)) _
  refine MT.ite (fun c752=>?_) (fun c752=>?_)
  ·have c752':=of_decide_eq_true c752
   refine MT.say (MT.ask (eX p_l ((k1:Nat):Int) (by omega) (by omega)) (fun x753 _ hx2=>?_))
   refine MT.say (MT.ask (R:=fun b_=>(b_=true→True)∧(b_=false→¬((x753:Int)<0)∧¬((8:Int)≤x753)∧True)) ?_ ?_)
   ·show MT (Ll p_l ((k1:Nat):Int) x753) _
    refine MT.ite (fun c755=>?_) (fun c755=>?_)
    ·have c755':=of_decide_eq_true c755
     exact MT.say (MT.ret ⟨(fun _=>trivial),(fun h_=>by cases h_)⟩)
    ·have c755':=of_decide_eq_false c755
     exact MT.say (MT.ret ⟨(fun _=>trivial),(fun h_=>⟨(by first|assumption|omega),(of_decide_eq_false h_),trivial⟩)⟩)
   ·intro r757 h758 f_r757
    refine MT.say (MT.ask (R:=fun b_=>(b_=true→True)∧(b_=false→r757=false∧True)) ?_ ?_)
    ·show MT (Lm p_l r757 ((k1:Nat):Int) x753) _
     refine MT.ite (fun c759=>?_) (fun c759=>?_)
     ·exact MT.say (MT.ret ⟨(fun _=>trivial),(fun h_=>by cases h_)⟩)
     ·have q3:=f_r757.2 (c759)
      refine MT.say (MT.ite (fun c760=>?_) (fun c760=>?_))
      ·have c760':=of_decide_eq_true c760
       refine MT.say (MT.ask (eX p_l (IntKind.wrap .i64 (((k1:Nat):Int)-1)) (by rw[w64 (by omega) (by omega)];omega) (by rw[w64 (by omega) (by omega)];omega)) (fun x761 _ hx4=>?_))
       exact MT.say (MT.ret ⟨(fun _=>trivial),(fun h_=>⟨(by first|assumption|omega),trivial⟩)⟩)
      ·have c760':=of_decide_eq_false c760
       exact MT.say (MT.ret ⟨(fun h_=>by cases h_),(fun h_=>⟨(by first|assumption|omega),trivial⟩)⟩)
    ·intro r764 h765 f_r764
     refine MT.say (MT.ite (fun c766=>?_) (fun c766=>?_))
     ·exact MT.say (MT.ret trivial)
     ·have q5:=f_r764.2 (c766)
      have q6:=f_r757.2 (q5.1)
      exact MT.say (MT.ret ⟨rfl,by omega⟩)
  ·have c752':=of_decide_eq_false c752
   exact MT.say (MT.ret trivial)
 ·intro o769 h768 _
  exact MT.say MT.any
 ·intro o770 h768 _
  first|exact MT.say MT.any|exact MT.say (MT.say MT.any)
theorem xJ(p_v:ah)(h_p_v:aP p_v.lf1≤100000000):Tot (Q88 p_v) Any:=by
 have:=dF p_v
 show MT (akH p_v) Any
 repeat' (first|exact MT.any|refine MT.say ?_|refine MT.ite (fun _=>?_) (fun _=>?_)|refine MT.mY ?_ (fun _ _=>?_)|exact⟨T.wk (je _ (by first|omega|decide))⟩|refine⟨(show MT _ Any from ?_)⟩)
theorem Fh(p_x:Int):Tot (atE p_x) Any:=by
 show MT (acU p_x) Any
 repeat' (first|exact MT.any|refine MT.say ?_|refine MT.ite (fun _=>?_) (fun _=>?_))
theorem kT(p_x:Int)(p_y:Int):Tot (apl p_x p_y) Any:=by
 show MT (acV p_x p_y) Any
 repeat' (first|exact MT.any|refine MT.say ?_|refine MT.ite (fun _=>?_) (fun _=>?_)|refine MT.mY ?_ (fun _ _=>?_)|exact⟨T.wk (Fh _)⟩)
theorem sF(n_:Nat):∀(p_a:ah) (p_b:ah),aP p_a.lf1<n_→aP p_a.lf1≤100000000→aP p_b.lf1≤100000000→Tot ((lU n_).m1 p_a p_b) Any:=by
 induction n_ with
 |zero=>intro p_a p_b h;omega
 |succ n_ ih=>
  intro p_a p_b h_ h_p_a h_p_b
  have:=dF p_a
  have:=fH p_a.aT
  have:=fK p_a.aW
  have:=dF p_b
  have:=fH p_b.aT
  have:=fK p_b.aW
  show MT (LC (lU n_) p_a p_b) Any
  refine MT.ite (fun c1664=>?_) (fun c1664=>?_)
  ·have c1664':¬(p_a.aF=p_b.aF):=by simpa using c1664
   refine MT.say (MT.ask (R:=Any) ?_ ?_)
   ·exact T.wk (kT p_a.aF p_b.aF )
   ·intro r1667 h1668 _
    exact MT.say MT.any
  ·have c1664':p_a.aF=p_b.aF:=by simpa using c1664
   refine MT.say (MT.ask (R:=Any) ?_ ?_)
   ·show MT (Ls (lU n_) p_a p_b) Any
    refine MT.ite (fun c1867=>?_) (fun c1867=>?_)
    ·have c1867':p_a.aF=3:=by simpa using c1867
     exact MT.say MT.any
    ·have c1867':¬(p_a.aF=3):=by simpa using c1867
     refine MT.say (MT.ite (fun c1868=>?_) (fun c1868=>?_))
     ·have c1868':p_a.aF=9:=by simpa using c1868
      exact MT.say MT.any
     ·have c1868':¬(p_a.aF=9):=by simpa using c1868
      exact MT.say MT.any
   ·intro r1870 h1871 _
    refine MT.say (MT.ite (fun c1953=>?_) (fun c1953=>?_))
    ·refine MT.say (MT.ask (R:=Any) ?_ ?_)
     ·exact T.wk (kT p_a.eF p_b.eF )
     ·intro r1956 h1957 _
      exact MT.say MT.any
    ·refine MT.say (MT.ask (R:=Any) ?_ ?_)
     ·show MT (Lu (lU n_) p_a p_b) Any
      refine MT.ite (fun c1958=>?_) (fun c1958=>?_)
      ·have c1958':p_a.aF=4:=by simpa using c1958
       exact MT.say MT.any
      ·have c1958':¬(p_a.aF=4):=by simpa using c1958
       refine MT.say (MT.ite (fun c1959=>?_) (fun c1959=>?_))
       ·have c1959':p_a.aF=7:=by simpa using c1959
        exact MT.say MT.any
       ·have c1959':¬(p_a.aF=7):=by simpa using c1959
        exact MT.say MT.any
     ·intro r1961 h1962 _
      refine MT.say (MT.ite (fun c2036=>?_) (fun c2036=>?_))
      ·refine MT.say (MT.ask (R:=Any) ?_ ?_)
       ·exact T.wk (T.val (Fg p_a.fText p_b.fText))
       ·intro r2039 h2040 _
        exact MT.say MT.any
      ·refine MT.say (MT.ite (fun c2111=>?_) (fun c2111=>?_))
       ·have c2111':p_a.aF=6:=by simpa using c2111
        refine MT.say (MT.lI (R:=Any) ?_ ?_ ?_)
        ·refine T.cnt (fun _=>True) ?_
         intro k7 hk7
         show MT (vg (lU n_) p_a p_b ((k7:Nat):Int)) _
         refine MT.ite (fun c2121=>?_) (fun c2121=>?_)
         ·have c2121':=of_decide_eq_true c2121
          refine MT.say (MT.ask (eX p_a.aT ((k7:Nat):Int) (by omega) (by omega)) (fun x2122 _ hx8=>?_))
          have:=gJ hx8
          have:=dF x2122
          refine MT.say (MT.ask (eX p_b.aT ((k7:Nat):Int) (by omega) (by omega)) (fun x2124 _ hx9=>?_))
          have:=gJ hx9
          have:=dF x2124
          refine MT.say (MT.ask (R:=Any) ?_ ?_)
          ·exact(ih x2122 x2124 (by omega) (by first|omega|(simp;done)|decide) (by first|omega|(simp;done)|decide))
          ·intro r2126 h2127 _
           refine MT.say (MT.ite (fun c2128=>?_) (fun c2128=>?_))
           ·have c2128':¬(r2126=0):=by simpa using c2128
            exact MT.say (MT.ret trivial)
           ·have c2128':r2126=0:=by simpa using c2128
            exact MT.say (MT.ret ⟨rfl,by omega⟩)
         ·have c2121':=of_decide_eq_false c2121
          exact MT.say (MT.ret trivial)
        ·intro o2134 h2133 _
         exact MT.say MT.any
        ·intro o2135 h2133 _
         refine MT.say (MT.ask (R:=Any) ?_ ?_)
         ·exact T.wk (kT (p_a.aT.length:Int) (p_b.aT.length:Int) )
         ·intro r2138 h2139 _
          exact MT.say MT.any
       ·have c2111':¬(p_a.aF=6):=by simpa using c2111
        refine MT.say (MT.ite (fun c2183=>?_) (fun c2183=>?_))
        ·have c2183':p_a.aF=5:=by simpa using c2183
         refine MT.say (MT.lI (R:=Any) ?_ ?_ ?_)
         ·refine T.cnt (fun _=>True) ?_
          intro k10 hk10
          show MT (vk (lU n_) p_a p_b ((k10:Nat):Int)) _
          refine MT.ite (fun c2200=>?_) (fun c2200=>?_)
          ·have c2200':=of_decide_eq_true c2200
           refine MT.say (MT.ask (eX p_a.aW ((k10:Nat):Int) (by omega) (by omega)) (fun x2201 _ hx11=>?_))
           have:=fE hx11
           have:=dY x2201
           refine MT.say (MT.ask (eX p_b.aW ((k10:Nat):Int) (by omega) (by omega)) (fun x2203 _ hx12=>?_))
           have:=fE hx12
           have:=dY x2203
           refine MT.say (MT.ask (R:=Any) ?_ ?_)
           ·exact T.wk (T.val (Fg x2201.fName x2203.fName))
           ·intro r2205 h2206 _
            refine MT.say (MT.ite (fun c2207=>?_) (fun c2207=>?_))
            ·have c2207':¬(r2205=0):=by simpa using c2207
             exact MT.say (MT.ret trivial)
            ·have c2207':r2205=0:=by simpa using c2207
             refine MT.say (MT.ask (eX p_a.aW ((k10:Nat):Int) (by omega) (by omega)) (fun x2208 _ hx13=>?_))
             have:=fE hx13
             have:=dY x2208
             have:=dF x2208.fValue
             refine MT.say (MT.ask (eX p_b.aW ((k10:Nat):Int) (by omega) (by omega)) (fun x2210 _ hx14=>?_))
             have:=fE hx14
             have:=dY x2210
             have:=dF x2210.fValue
             refine MT.say (MT.ask (R:=Any) ?_ ?_)
             ·exact(ih x2208.fValue x2210.fValue (by omega) (by first|omega|(simp;done)|decide) (by first|omega|(simp;done)|decide))
             ·intro r2212 h2213 _
              refine MT.say (MT.ite (fun c2214=>?_) (fun c2214=>?_))
              ·have c2214':¬(r2212=0):=by simpa using c2214
               exact MT.say (MT.ret trivial)
              ·have c2214':r2212=0:=by simpa using c2214
               exact MT.say (MT.ret ⟨rfl,by omega⟩)
          ·have c2200':=of_decide_eq_false c2200
           exact MT.say (MT.ret trivial)
         ·intro o2222 h2221 _
          exact MT.say MT.any
         ·intro o2223 h2221 _
          refine MT.say (MT.ask (R:=Any) ?_ ?_)
          ·exact T.wk (kT (p_a.aW.length:Int) (p_b.aW.length:Int) )
          ·intro r2226 h2227 _
           exact MT.say MT.any
        ·have c2183':¬(p_a.aF=5):=by simpa using c2183
         exact MT.say MT.any
theorem uh(p_a:ah)(p_b:ah)(h_p_a:aP p_a.lf1≤100000000)(h_p_b:aP p_b.lf1≤100000000):Tot (Q37 p_a p_b) Any:=sF FU p_a p_b (by have:=fJ;omega) h_p_a h_p_b
theorem Jy(p_a:ah)(p_b:ah)(h_p_a:aP p_a.lf1≤100000000)(h_p_b:aP p_b.lf1≤100000000):Tot (apn p_a p_b) Any:=by
 have:=dF p_a
 have:=dF p_b
 show MT (acX p_a p_b) Any
 repeat' (first|exact MT.any|refine MT.say ?_|refine MT.ite (fun _=>?_) (fun _=>?_)|refine MT.mY ?_ (fun _ _=>?_)|exact⟨T.wk (uh _ _ (by first|omega|decide) (by first|omega|decide))⟩)
theorem Fj(n_:Nat):∀(p_v:ah),aP p_v.lf1<n_→aP p_v.lf1≤100000000→Tot ((qV n_).m1 p_v) Any:=by
 induction n_ with
 |zero=>intro p_v h;omega
 |succ n_ ih=>
  intro p_v h_ h_p_v
  have:=dF p_v
  have:=fH p_v.aT
  have:=fK p_v.aW
  show MT (ZI (qV n_) p_v) Any
  refine MT.ask (R:=Any) ?_ ?_
  ·show MT (GX (qV n_) p_v) Any
   refine MT.ask (R:=Any) ?_ ?_
   ·show MT (LG (qV n_) p_v) Any
    refine MT.ite (fun c2355=>?_) (fun c2355=>?_)
    ·have c2355':p_v.aF=3:=by simpa using c2355
     exact MT.say MT.any
    ·have c2355':¬(p_v.aF=3):=by simpa using c2355
     exact MT.say MT.any
   ·intro r2357 h2358 _
    refine MT.say (MT.ite (fun c2359=>?_) (fun c2359=>?_))
    ·refine MT.say (MT.ask (R:=Any) ?_ ?_)
     ·exact T.wk (jK p_v.eF )
     ·intro r2360 h2361 _
      exact MT.say MT.any
    ·refine MT.say (MT.ite (fun c2362=>?_) (fun c2362=>?_))
     ·have c2362':p_v.aF=9:=by simpa using c2362
      exact MT.say MT.any
     ·have c2362':¬(p_v.aF=9):=by simpa using c2362
      refine MT.say (MT.ask (R:=Any) ?_ ?_)
      ·show MT (LH (qV n_) p_v) Any
       refine MT.ite (fun c2363=>?_) (fun c2363=>?_)
       ·have c2363':p_v.aF=4:=by simpa using c2363
        exact MT.say MT.any
       ·have c2363':¬(p_v.aF=4):=by simpa using c2363
        exact MT.say MT.any
      ·intro r2365 h2366 _
       refine MT.say (MT.ite (fun c2367=>?_) (fun c2367=>?_))
       ·refine MT.say (MT.ask (R:=Any) ?_ ?_)
        ·exact T.wk (jK (p_v.fText.size:Int) )
        ·intro r2368 h2369 _
         exact MT.say MT.any
       ·refine MT.say (MT.ite (fun c2370=>?_) (fun c2370=>?_))
        ·have c2370':p_v.aF=8:=by simpa using c2370
         exact MT.say MT.any
        ·have c2370':¬(p_v.aF=8):=by simpa using c2370
         refine MT.say (MT.ite (fun c2371=>?_) (fun c2371=>?_))
         ·have c2371':p_v.aF=6:=by simpa using c2371
          refine MT.say (MT.ask (R:=Any) ?_ ?_)
          ·exact T.wk (jK (p_v.aT.length:Int) )
          ·intro r2372 h2373 _
           refine MT.say (MT.ask (R:=Any) ?_ ?_)
           ·refine T.awU (fun _=>True) ?_
            intro v2379 k15 hk15
            show MT (vw (qV n_) p_v (v2379,((k15:Nat):Int))) _
            refine MT.ite (fun c2381=>?_) (fun c2381=>?_)
            ·have c2381':=of_decide_eq_true c2381
             refine MT.say (MT.ask (eX p_v.aT ((k15:Nat):Int) (by omega) (by omega)) (fun x2382 _ hx16=>?_))
             have:=gJ hx16
             have:=dF x2382
             refine MT.say (MT.ask (R:=Any) ?_ ?_)
             ·exact(ih x2382 (by omega) (by first|omega|(simp;done)|decide))
             ·intro r2384 h2385 _
              exact MT.say (MT.ret ⟨rfl,by omega⟩)
            ·have c2381':=of_decide_eq_false c2381
             exact MT.say (MT.ret trivial)
           ·intro r2387 h2388 _
            exact MT.say MT.any
         ·have c2371':¬(p_v.aF=6):=by simpa using c2371
          refine MT.say (MT.ite (fun c2389=>?_) (fun c2389=>?_))
          ·have c2389':p_v.aF=5:=by simpa using c2389
           refine MT.say (MT.ask (R:=Any) ?_ ?_)
           ·exact T.wk (jK (p_v.aW.length:Int) )
           ·intro r2390 h2391 _
            refine MT.say (MT.ask (R:=Any) ?_ ?_)
            ·refine T.awU (fun _=>True) ?_
             intro v2399 k17 hk17
             show MT (vC (qV n_) p_v (v2399,((k17:Nat):Int))) _
             refine MT.ite (fun c2401=>?_) (fun c2401=>?_)
             ·have c2401':=of_decide_eq_true c2401
              refine MT.say (MT.ask (eX p_v.aW ((k17:Nat):Int) (by omega) (by omega)) (fun x2402 _ hx18=>?_))
              have:=fE hx18
              have:=dY x2402
              have:=dF x2402.fValue
              refine MT.say (MT.ask (R:=Any) ?_ ?_)
              ·exact T.wk (jK (x2402.fName.size:Int) )
              ·intro r2404 h2405 _
               refine MT.say (MT.ask (R:=Any) ?_ ?_)
               ·exact(ih x2402.fValue (by omega) (by first|omega|(simp;done)|decide))
               ·intro r2406 h2407 _
                exact MT.say (MT.ret ⟨rfl,by omega⟩)
             ·have c2401':=of_decide_eq_false c2401
              exact MT.say (MT.ret trivial)
            ·intro r2409 h2410 _
             exact MT.say MT.any
          ·have c2389':¬(p_v.aF=5):=by simpa using c2389
           exact MT.say MT.any
  ·intro r2417 h2418 _
   exact MT.say MT.any
theorem IE(p_v:ah)(h_p_v:aP p_v.lf1≤100000000):Tot (Q34 p_v) Any:=Fj FU p_v (by have:=fJ;omega) h_p_v
theorem IG(p_v:ah)(h_p_v:aP p_v.lf1≤100000000):Tot (akK p_v) Any:=by
 have:=dF p_v
 show MT (ac0 p_v) Any
 repeat' (first|exact MT.any|refine MT.say ?_|refine MT.ite (fun _=>?_) (fun _=>?_)|refine MT.mY ?_ (fun _ _=>?_)|exact⟨T.wk (IE _ (by first|omega|decide))⟩|exact⟨T.wk (je _ (by first|omega|decide))⟩)
theorem oC(p_doc:ah)(p_key:ah)(h_p_doc:aP p_doc.lf1≤100000000)(h_p_key:aP p_key.lf1≤100000000):Tot (Q81 p_doc p_key) Any:=by
 have:=dF p_doc
 have:=fK p_doc.aW
 have:=dF p_key
 show MT (akL p_doc p_key) Any
 refine MT.ask (R:=fun b_=>(b_=true→True)∧(b_=false→p_doc.aF=5∧True)) ?_ ?_
 ·show MT (LJ p_doc p_key) _
  refine MT.ite (fun c1625=>?_) (fun c1625=>?_)
  ·have c1625':¬(p_doc.aF=5):=by simpa using c1625
   exact MT.say (MT.ret ⟨(fun _=>trivial),(fun h_=>by cases h_)⟩)
  ·have c1625':p_doc.aF=5:=by simpa using c1625
   refine MT.say (MT.ask (R:=Any) ?_ ?_)
   ·exact T.wk (je p_doc (by first|omega|(simp;done)|decide))
   ·intro r1626 h1627 _
    exact MT.say (MT.ret ⟨(fun _=>trivial),(fun h_=>⟨(by first|assumption|omega),trivial⟩)⟩)
 ·intro r1629 h1630 f_r1629
  refine MT.say (MT.ask (R:=fun b_=>(b_=true→True)∧(b_=false→r1629=false∧¬((p_doc.aW.length:Int)=0)∧True)) ?_ ?_)
  ·show MT (LK p_doc p_key r1629) _
   refine MT.ite (fun c1631=>?_) (fun c1631=>?_)
   ·exact MT.say (MT.ret ⟨(fun _=>trivial),(fun h_=>by cases h_)⟩)
   ·have q19:=f_r1629.2 (c1631)
    first|exact MT.say (MT.ret ⟨(fun _=>trivial),(fun h_=>⟨(by first|assumption|omega),(by simpa using h_),trivial⟩)⟩)|exact MT.say (MT.say (MT.ret ⟨(fun _=>trivial),(fun h_=>⟨(by first|assumption|omega),(by simpa using h_),trivial⟩)⟩))
  ·intro r1633 h1634 f_r1633
   refine MT.say (MT.ite (fun c1636=>?_) (fun c1636=>?_))
   ·exact MT.say MT.any
   ·have q20:=f_r1633.2 (c1636)
    have q21:=f_r1629.2 (q20.1)
    refine MT.say (MT.ask (R:=Any) ?_ ?_)
    ·show MT (GY p_doc p_key) Any
     refine MT.ask (eX p_doc.aW 0 (by omega) (by omega)) (fun x2232 _ hx22=>?_)
     have:=fE hx22
     have:=dY x2232
     refine MT.say (MT.ite (fun c2234=>?_) (fun c2234=>?_))
     ·exact MT.say MT.any
     ·refine MT.say (MT.ask (eX p_doc.aW 0 (by omega) (by omega)) (fun x2235 _ hx23=>?_))
      have:=fE hx23
      have:=dY x2235
      have:=dF x2235.fValue
      refine MT.say (MT.ask (R:=Any) ?_ ?_)
      ·exact T.wk (Jy x2235.fValue p_key (by first|omega|(simp;done)|decide) (by first|omega|(simp;done)|decide))
      ·intro r2237 h2238 _
       exact MT.say MT.any
    ·intro r2242 h2243 _
     refine MT.say (MT.ite (fun c2245=>?_) (fun c2245=>?_))
     ·exact MT.say MT.any
     ·refine MT.say (MT.ask (R:=Any) ?_ ?_)
      ·exact T.wk (IG p_doc (by first|omega|(simp;done)|decide))
      ·intro r2423 h2424 _
       refine MT.say (MT.ite (fun c2426=>?_) (fun c2426=>?_))
       ·have c2426':¬(r2423.2=0):=by simpa using c2426
        exact MT.say MT.any
       ·have c2426':r2423.2=0:=by simpa using c2426
        refine MT.say (MT.ite (fun c2428=>?_) (fun c2428=>?_))
        ·have c2428':=of_decide_eq_true c2428
         exact MT.say MT.any
        ·have c2428':=of_decide_eq_false c2428
         exact MT.say MT.any
theorem BI(p_w:aG)(h_p_w:aP p_w.lf1≤100000000):Tot (atH p_w) Any:=by
 have:=jJ p_w
 have:=dF p_w.fZ
 have:=dF p_w.aW
 have:=dF p_w.dG
 show MT (ac1 p_w) Any
 repeat' (first|exact MT.any|refine MT.say ?_|refine MT.ite (fun _=>?_) (fun _=>?_)|refine MT.mY ?_ (fun _ _=>?_)|refine MT.asA ?_ (fun _ _=>?_) (fun _ _=>?_)|exact⟨T.wk (xJ _ (by first|omega|decide))⟩|exact⟨T.wk (oC _ _ (by first|omega|decide) (by first|omega|decide))⟩|exact⟨T.wk (jL _)⟩|refine⟨(show MT _ Any from ?_)⟩)
theorem wE(p_s1:List ByteArray)(p_s2:List ByteArray)(h_p_s1:bK (p_s1.map lfS)≤100000000)(h_p_s2:bK (p_s2.map lfS)≤100000000):Tot (Q94 p_s1 p_s2) Any:=by
 have:=gX p_s1
 have:=gX p_s2
 show MT (akR p_s1 p_s2) Any
 refine MT.say (MT.ite (fun c2833=>?_) (fun c2833=>?_))
 ·have c2833':¬((p_s1.length:Int)=(p_s2.length:Int)):=by simpa using c2833
  exact MT.say MT.any
 ·have c2833':(p_s1.length:Int)=(p_s2.length:Int):=by simpa using c2833
  refine MT.say (MT.lI (R:=Any) ?_ ?_ ?_)
  ·refine T.cnt (fun _=>True) ?_
   intro k24 hk24
   show MT (yJ p_s1 p_s2 ((k24:Nat):Int)) _
   refine MT.ite (fun c2869=>?_) (fun c2869=>?_)
   ·have c2869':=of_decide_eq_true c2869
    refine MT.say (MT.ask (eX p_s1 ((k24:Nat):Int) (by omega) (by omega)) (fun x2870 _ hx25=>?_))
    have:=J4 hx25
    refine MT.say (MT.ask (eX p_s2 ((k24:Nat):Int) (by omega) (by omega)) (fun x2872 _ hx26=>?_))
    have:=J4 hx26
    refine MT.say (MT.ite (fun c2874=>?_) (fun c2874=>?_))
    ·exact MT.say (MT.ret trivial)
    ·exact MT.say (MT.ret ⟨rfl,by omega⟩)
   ·have c2869':=of_decide_eq_false c2869
    exact MT.say (MT.ret trivial)
  ·intro o2877 h2876 _
   exact MT.say MT.any
  ·intro o2878 h2876 _
   exact MT.say MT.any
theorem Jz(p_l:List aY)(h_p_l:bK (p_l.map aY.lf)≤100000000):Tot (Q87 p_l) Any:=by
 have:=lK p_l
 show MT (akS p_l) Any
 refine MT.say (MT.ite (fun c2811=>?_) (fun c2811=>?_))
 ·have c2811':=of_decide_eq_true c2811
  exact MT.say MT.any
 ·have c2811':=of_decide_eq_false c2811
  refine MT.say (MT.lI (R:=Any) ?_ ?_ ?_)
  ·refine T.cnt (fun _=>True) ?_
   intro k27 hk27
   have:=jF aY.lf p_l (((k27:Nat):Int).toNat)
   have:=lK (p_l.take ((k27:Nat):Int).toNat)
   show MT (yL p_l ((k27:Nat):Int)) _
   refine MT.ite (fun c2996=>?_) (fun c2996=>?_)
   ·have c2996':=of_decide_eq_true c2996
    refine MT.say (MT.ask (eX p_l ((k27:Nat):Int) (by omega) (by omega)) (fun x2997 _ hx28=>?_))
    have:=Bl hx28
    have:=kR x2997
    have:=gX x2997.cO
    refine MT.say (MT.ask (R:=Any) ?_ ?_)
    ·exact T.wk (T.val (l9 x2997.cO))
    ·intro r2999 h3000 _
     refine MT.say (MT.ite (fun c3001=>?_) (fun c3001=>?_))
     ·exact MT.say (MT.ret trivial)
     ·refine MT.say (MT.grd (by omega) (fun _=>?_))
      refine MT.say (MT.lI (R:=Any) ?_ ?_ ?_)
      ·refine T.cnt (fun _=>True) ?_
       intro k29 hk29
       have:=jF aY.lf p_l (((k27:Nat):Int).toNat)
       have:=lK (p_l.take ((k27:Nat):Int).toNat)
       show MT (yK p_l ((k27:Nat):Int) x2997 ((k29:Nat):Int)) _
       refine MT.ite (fun c3010=>?_) (fun c3010=>?_)
       ·have c3010':=of_decide_eq_true c3010
        refine MT.say (MT.ask (eX (p_l.take ((k27:Nat):Int).toNat) ((k29:Nat):Int) (by omega) (by omega)) (fun x3011 _ hx30=>?_))
        have:=jF aY.lf p_l (((k27:Nat):Int).toNat)
        have:=Bl hx30
        have:=kR x3011
        have:=gX x3011.cO
        refine MT.say (MT.ask (R:=Any) ?_ ?_)
        ·exact T.wk (wE x3011.cO x2997.cO (by first|omega|(simp;done)|decide) (by first|omega|(simp;done)|decide))
        ·intro r3013 h3014 _
         refine MT.say (MT.ite (fun c3015=>?_) (fun c3015=>?_))
         ·exact MT.say (MT.ret trivial)
         ·exact MT.say (MT.ret ⟨rfl,by omega⟩)
       ·have c3010':=of_decide_eq_false c3010
        exact MT.say (MT.ret trivial)
      ·intro o3018 h3017 _
       exact MT.say (MT.ret trivial)
      ·intro o3019 h3017 _
       exact MT.say (MT.ret ⟨rfl,by omega⟩)
   ·have c2996':=of_decide_eq_false c2996
    exact MT.say (MT.ret trivial)
  ·intro o3023 h3022 _
   exact MT.say MT.any
  ·intro o3024 h3022 _
   exact MT.say MT.any
theorem BJ(n_:Nat):∀(p_p:aO) (p_level:Int) (p_b0:Int),aP p_p.lf1<n_→aP p_p.lf1≤100000000→Tot ((yN n_).m1 p_p p_level p_b0) Any:=by
 induction n_ with
 |zero=>intro p_p p_level p_b0 h;omega
 |succ n_ ih=>
  intro p_p p_level p_b0 h_ h_p_p
  have:=gK p_p
  have:=nR p_p.bC
  show MT (LM (yN n_) p_p p_level p_b0) Any
  refine MT.ask (R:=fun b_=>(b_=true→True)∧(b_=false→¬((16:Int)<p_level)∧¬(p_b0=256)∧True)) ?_ ?_
  ·show MT (Ef (yN n_) p_b0 p_level p_p) _
   refine MT.ite (fun c3050=>?_) (fun c3050=>?_)
   ·have c3050':=of_decide_eq_true c3050
    exact MT.say (MT.ret ⟨(fun _=>trivial),(fun h_=>by cases h_)⟩)
   ·have c3050':=of_decide_eq_false c3050
    exact MT.say (MT.ret ⟨(fun _=>trivial),(fun h_=>⟨(by first|assumption|omega),(by simpa using h_),trivial⟩)⟩)
  ·intro r3052 h3053 f_r3052
   refine MT.say (MT.ite (fun c3055=>?_) (fun c3055=>?_))
   ·exact MT.say MT.any
   ·have q31:=f_r3052.2 (c3055)
    refine MT.say (MT.lI (R:=Any) ?_ ?_ ?_)
    ·refine T.Pg (fun _=>True) ?_
     intro k32 v3094 hk32
     show MT (yM (yN n_) p_level p_p (((k32:Nat):Int),v3094)) _
     refine MT.ite (fun c3095=>?_) (fun c3095=>?_)
     ·have c3095':=of_decide_eq_true c3095
      refine MT.say (MT.ask (eX p_p.bC ((k32:Nat):Int) (by omega) (by omega)) (fun x3096 _ hx33=>?_))
      have:=wz hx33
      have:=gK x3096
      refine MT.say (MT.ask (R:=Any) ?_ ?_)
      ·exact(ih x3096 (IntKind.wrap .i64 (p_level+1)) v3094 (by omega) (by first|omega|(simp;done)|decide))
      ·intro r3098 h3099 _
       refine MT.say (MT.ite (fun c3100=>?_) (fun c3100=>?_))
       ·exact MT.say (MT.ret trivial)
       ·exact MT.say (MT.ret ⟨rfl,by omega⟩)
     ·have c3095':=of_decide_eq_false c3095
      exact MT.say (MT.ret trivial)
    ·intro o3105 h3104 _
     exact MT.say MT.any
    ·intro o3106 h3104 _
     exact MT.say MT.any
theorem Dp(p_p:aO)(p_level:Int)(p_b0:Int)(h_p_p:aP p_p.lf1≤100000000):Tot (Q70 p_p p_level p_b0) Any:=BJ FU p_p p_level p_b0 (by have:=fJ;omega) h_p_p
theorem pI(p_op:Int)(p_n:Int):Tot (akT p_op p_n) Any:=by
 show MT (ac4 p_op p_n) Any
 repeat' (first|exact MT.any|refine MT.say ?_|refine MT.ite (fun _=>?_) (fun _=>?_)|refine MT.mY ?_ (fun _ _=>?_)|refine⟨(show MT _ Any from ?_)⟩)
theorem iY(p_op:Int):Tot (Q98 p_op) Any:=by
 show MT (afS p_op) Any
 repeat' (first|exact MT.any|refine MT.say ?_|refine MT.ite (fun _=>?_) (fun _=>?_))
theorem pJ(p_p:aO)(h_p_p:aP p_p.lf1≤100000000):Tot (Q49 p_p) Any:=by
 have:=gK p_p
 show MT (akU p_p) Any
 repeat' (first|exact MT.any|refine MT.say ?_|refine MT.ite (fun _=>?_) (fun _=>?_)|refine MT.mY ?_ (fun _ _=>?_)|refine⟨(show MT _ Any from ?_)⟩)
theorem kK(p_op:Int):Tot (Pn p_op) Any:=by
 show MT (Wu p_op) Any
 repeat' (first|exact MT.any|refine MT.say ?_|refine MT.ite (fun _=>?_) (fun _=>?_))
theorem mD(p_op:Int):Tot (ZM p_op) Any:=by
 show MT (Wv p_op) Any
 repeat' (first|exact MT.any|refine MT.say ?_|refine MT.ite (fun _=>?_) (fun _=>?_))
theorem jT(p_op:Int):Tot (ZN p_op) Any:=by
 show MT (Wy p_op) Any
 repeat' (first|exact MT.any|refine MT.say ?_|refine MT.ite (fun _=>?_) (fun _=>?_)|refine MT.mY ?_ (fun _ _=>?_)|exact⟨T.wk (mD _)⟩)
theorem qC(p_n:Int):Tot (WA p_n) Any:=by
 show MT (LQ p_n) Any
 repeat' (first|exact MT.any|refine MT.say ?_|refine MT.ite (fun _=>?_) (fun _=>?_))
theorem JA(p_p:bU)(h_p_p:aP p_p.lf1≤100000000):Tot (ah1 p_p) Any:=by
 have:=pV p_p
 show MT (WC p_p) Any
 repeat' (first|exact MT.any|refine MT.say ?_|refine MT.ite (fun _=>?_) (fun _=>?_)|refine MT.mY ?_ (fun _ _=>?_)|exact⟨T.wk (qC _)⟩)
theorem Px(p_s:dL)(h_p_s:aP p_s.lf1≤100000000):Tot (apz p_s) Any:=by
 have:=kS p_s
 have:=pX p_s.bG
 show MT (ac6 p_s) Any
 refine MT.say (MT.ask (R:=Any) ?_ ?_)
 ·show MT (GZ p_s) Any
  refine MT.ite (fun c3440=>?_) (fun c3440=>?_)
  ·have c3440':p_s.aF=1:=by simpa using c3440
   refine MT.say (MT.ite (fun c3441=>?_) (fun c3441=>?_))
   ·have c3441':(p_s.bG.length:Int)=2:=by simpa using c3441
    exact MT.say MT.any
   ·have c3441':¬((p_s.bG.length:Int)=2):=by simpa using c3441
    exact MT.say MT.any
  ·have c3440':¬(p_s.aF=1):=by simpa using c3440
   refine MT.say (MT.ite (fun c3442=>?_) (fun c3442=>?_))
   ·have c3442':p_s.aF=2:=by simpa using c3442
    refine MT.say (MT.ite (fun c3443=>?_) (fun c3443=>?_))
    ·have c3443':(p_s.bG.length:Int)=1:=by simpa using c3443
     refine MT.say (MT.ask (R:=Any) ?_ ?_)
     ·exact T.wk (qC p_s.fR )
     ·intro r3444 h3445 _
      exact MT.say MT.any
    ·have c3443':¬((p_s.bG.length:Int)=1):=by simpa using c3443
     exact MT.say MT.any
   ·have c3442':¬(p_s.aF=2):=by simpa using c3442
    refine MT.say (MT.ite (fun c3446=>?_) (fun c3446=>?_))
    ·have c3446':p_s.aF=3:=by simpa using c3446
     refine MT.say (MT.ite (fun c3447=>?_) (fun c3447=>?_))
     ·have c3447':=of_decide_eq_true c3447
      refine MT.say (MT.ite (fun c3448=>?_) (fun c3448=>?_))
      ·have c3448':=of_decide_eq_true c3448
       exact MT.say MT.any
      ·have c3448':=of_decide_eq_false c3448
       exact MT.say MT.any
     ·have c3447':=of_decide_eq_false c3447
      exact MT.say MT.any
    ·have c3446':¬(p_s.aF=3):=by simpa using c3446
     exact MT.say MT.any
 ·intro r3450 h3451 _
  refine MT.say (MT.ite (fun c3453=>?_) (fun c3453=>?_))
  ·exact MT.say MT.any
  ·refine MT.say (MT.lI (R:=Any) ?_ ?_ ?_)
   ·refine T.cnt (fun _=>True) ?_
    intro k34 hk34
    show MT (vF p_s ((k34:Nat):Int)) _
    refine MT.ite (fun c3494=>?_) (fun c3494=>?_)
    ·have c3494':=of_decide_eq_true c3494
     refine MT.say (MT.ask (eX p_s.bG ((k34:Nat):Int) (by omega) (by omega)) (fun x3495 _ hx35=>?_))
     have:=pV x3495
     refine MT.say (MT.ask (R:=Any) ?_ ?_)
     ·exact T.wk (JA x3495 (by first|omega|(simp;done)|decide))
     ·intro r3497 h3498 _
      refine MT.say (MT.ite (fun c3499=>?_) (fun c3499=>?_))
      ·exact MT.say (MT.ret trivial)
      ·exact MT.say (MT.ret ⟨rfl,by omega⟩)
    ·have c3494':=of_decide_eq_false c3494
     exact MT.say (MT.ret trivial)
   ·intro o3502 h3501 _
    exact MT.say MT.any
   ·intro o3503 h3501 _
    exact MT.say MT.any
theorem qE(p_v:ah):Tot (apB p_v) Any:=by
 show MT (ac7 p_v) Any
 repeat' (first|exact MT.any|refine MT.say ?_|refine MT.ite (fun _=>?_) (fun _=>?_)|refine MT.mY ?_ (fun _ _=>?_)|refine⟨(show MT _ Any from ?_)⟩)
theorem BK(p_op:Int):Tot (atU p_op) Any:=by
 show MT (ac8 p_op) Any
 repeat' (first|exact MT.any|refine MT.say ?_|refine MT.ite (fun _=>?_) (fun _=>?_)|refine MT.mY ?_ (fun _ _=>?_)|refine⟨(show MT _ Any from ?_)⟩)
theorem uP(p_e:aQ):Tot (ah2 p_e) Any:=by
 show MT (WH p_e) Any
 repeat' (first|exact MT.any|refine MT.say ?_|refine MT.ite (fun _=>?_) (fun _=>?_)|refine MT.mY ?_ (fun _ _=>?_)|exact⟨T.wk (qE _)⟩|refine⟨(show MT _ Any from ?_)⟩)
theorem BL(p_p:aO):Tot (Q16 p_p) Any:=by
 show MT (akV p_p) Any
 repeat' (first|exact MT.any|refine MT.say ?_|refine MT.ite (fun _=>?_) (fun _=>?_)|refine MT.mY ?_ (fun _ _=>?_)|refine MT.asA ?_ (fun _ _=>?_) (fun _ _=>?_)|exact⟨T.wk (qE _)⟩|exact⟨T.wk (uP _)⟩|exact⟨T.wk (kK _)⟩|exact⟨T.wk (jT _)⟩|exact⟨T.wk (iY _)⟩|exact⟨T.wk (BK _)⟩|refine⟨(show MT _ Any from ?_)⟩)
theorem Oi(p_op:Int):Tot (Q82 p_op) Any:=by
 show MT (akW p_op) Any
 repeat' (first|exact MT.any|refine MT.say ?_|refine MT.ite (fun _=>?_) (fun _=>?_)|refine MT.mY ?_ (fun _ _=>?_)|refine⟨(show MT _ Any from ?_)⟩)
theorem II(p_shape:Int)(p_n:Int):Tot (apE p_shape p_n) Any:=by
 show MT (ac9 p_shape p_n) Any
 repeat' (first|exact MT.any|refine MT.say ?_|refine MT.ite (fun _=>?_) (fun _=>?_)|refine MT.mY ?_ (fun _ _=>?_)|refine⟨(show MT _ Any from ?_)⟩)
theorem yc(p_s:ByteArray)(h_p_s:p_s.size≤100000000):Tot (apG p_s) Any:=by
 show MT (ada p_s) Any
 repeat' (first|exact MT.any|refine MT.say ?_|refine MT.ite (fun _=>?_) (fun _=>?_)|refine MT.mY ?_ (fun _ _=>?_)|exact⟨T.wk (T.val (l9 _))⟩)
theorem xK(p_l:List ByteArray)(h_p_l:bK (p_l.map lfS)≤100000000):Tot (Q75 p_l) Any:=by
 have:=gX p_l
 show MT (akY p_l) Any
 refine MT.say (MT.lI (R:=Any) ?_ ?_ ?_)
 ·refine T.avS (fun _=>True) ?_
  intro k36 m4094 hk36 hmk36
  show MT (yO p_l (((k36:Nat):Int),m4094)) _
  refine MT.ite (fun c4095=>?_) (fun c4095=>?_)
  ·have c4095':=of_decide_eq_true c4095
   refine MT.say (MT.ask (eX p_l ((k36:Nat):Int) (by omega) (by omega)) (fun x4096 _ hx37=>?_))
   have:=J4 hx37
   refine MT.say (MT.ask (R:=Any) ?_ ?_)
   ·show MT (LV m4094 p_l ((k36:Nat):Int) x4096) Any
    refine MT.ask (R:=Any) ?_ ?_
    ·exact T.wk (yc x4096 (by first|omega|(simp;done)|decide))
    ·intro r4098 h4099 _
     refine MT.say (MT.ite (fun c4100=>?_) (fun c4100=>?_))
     ·exact MT.say MT.any
     ·first|exact MT.say MT.any|exact MT.say (MT.say MT.any)
   ·intro r4102 h4103 _
    refine MT.say (MT.ite (fun c4104=>?_) (fun c4104=>?_))
    ·exact MT.say (MT.ret trivial)
    ·refine MT.say (MT.grd (by unfold maxLen;omega) (fun _=>?_))
     exact MT.say (MT.ret ⟨rfl,by first|omega|(simp only[List.length_cons];omega),by omega⟩)
  ·have c4095':=of_decide_eq_false c4095
   exact MT.say (MT.ret trivial)
 ·intro o4108 h4107 _
  exact MT.say MT.any
 ·intro o4109 h4107 _
  exact MT.say MT.any
theorem JB(p_v:ah):Tot (apH p_v) Any:=by
 show MT (adb p_v) Any
 repeat' (first|exact MT.any|refine MT.say ?_|refine MT.ite (fun _=>?_) (fun _=>?_)|refine MT.mY ?_ (fun _ _=>?_)|refine⟨(show MT _ Any from ?_)⟩)
theorem Dq(p_e:aQ)(h_p_e:aP p_e.lf1≤100000000):Tot (Q21 p_e) Any:=by
 have:=jA p_e
 have:=gX p_e.cO
 have:=gX p_e.eu
 have:=dF p_e.fArg
 have:=pY p_e.bC
 show MT (akZ p_e) Any
 repeat' (first|exact MT.any|refine MT.say ?_|refine MT.ite (fun _=>?_) (fun _=>?_)|refine MT.mY ?_ (fun _ _=>?_)|exact⟨T.wk (xK _ (by first|omega|decide))⟩|exact⟨T.wk (II _ _)⟩|exact⟨T.wk (yc _ (by first|omega|decide))⟩|exact⟨T.wk (JB _)⟩|exact⟨T.wk (Oi _)⟩|exact⟨T.wk (T.val (l9 _))⟩|exact⟨T.wk (je _ (by first|omega|decide))⟩|refine⟨(show MT _ Any from ?_)⟩)
theorem JC(n_:Nat):∀(p_e:aQ) (p_level:Int) (p_b0:Int),aP p_e.lf1<n_→aP p_e.lf1≤100000000→Tot ((yQ n_).m1 p_e p_level p_b0) Any:=by
 induction n_ with
 |zero=>intro p_e p_level p_b0 h;omega
 |succ n_ ih=>
  intro p_e p_level p_b0 h_ h_p_e
  have:=jA p_e
  have:=pY p_e.bC
  show MT (LW (yQ n_) p_e p_level p_b0) Any
  refine MT.ask (R:=fun b_=>(b_=true→True)∧(b_=false→¬((16:Int)<p_level)∧¬(p_b0=256)∧True)) ?_ ?_
  ·show MT (En (yQ n_) p_b0 p_e p_level) _
   refine MT.ite (fun c3727=>?_) (fun c3727=>?_)
   ·have c3727':=of_decide_eq_true c3727
    exact MT.say (MT.ret ⟨(fun _=>trivial),(fun h_=>by cases h_)⟩)
   ·have c3727':=of_decide_eq_false c3727
    exact MT.say (MT.ret ⟨(fun _=>trivial),(fun h_=>⟨(by first|assumption|omega),(by simpa using h_),trivial⟩)⟩)
  ·intro r3729 h3730 f_r3729
   refine MT.say (MT.ite (fun c3732=>?_) (fun c3732=>?_))
   ·exact MT.say MT.any
   ·have q38:=f_r3729.2 (c3732)
    refine MT.say (MT.ask (R:=Any) ?_ ?_)
    ·exact T.wk (Dq p_e (by first|omega|(simp;done)|decide))
    ·intro r4219 h4220 _
     refine MT.say (MT.ite (fun c4222=>?_) (fun c4222=>?_))
     ·have c4222':¬(r4219=0):=by simpa using c4222
      exact MT.say MT.any
     ·have c4222':r4219=0:=by simpa using c4222
      refine MT.say (MT.lI (R:=Any) ?_ ?_ ?_)
      ·refine T.Pg (fun _=>True) ?_
       intro k39 v4262 hk39
       show MT (yP (yQ n_) p_e p_level (((k39:Nat):Int),v4262)) _
       refine MT.ite (fun c4263=>?_) (fun c4263=>?_)
       ·have c4263':=of_decide_eq_true c4263
        refine MT.say (MT.ask (eX p_e.bC ((k39:Nat):Int) (by omega) (by omega)) (fun x4264 _ hx40=>?_))
        have:=EY hx40
        have:=jA x4264
        refine MT.say (MT.ask (R:=Any) ?_ ?_)
        ·exact(ih x4264 (IntKind.wrap .i64 (p_level+1)) v4262 (by omega) (by first|omega|(simp;done)|decide))
        ·intro r4266 h4267 _
         refine MT.say (MT.ite (fun c4268=>?_) (fun c4268=>?_))
         ·have c4268':¬(r4266.1=0):=by simpa using c4268
          exact MT.say (MT.ret trivial)
         ·have c4268':r4266.1=0:=by simpa using c4268
          exact MT.say (MT.ret ⟨rfl,by omega⟩)
       ·have c4263':=of_decide_eq_false c4263
        exact MT.say (MT.ret trivial)
      ·intro o4274 h4273 _
       exact MT.say MT.any
      ·intro o4275 h4273 _
       exact MT.say MT.any
theorem Oj(p_e:aQ)(p_level:Int)(p_b0:Int)(h_p_e:aP p_e.lf1≤100000000):Tot (Q99 p_e p_level p_b0) Any:=JC FU p_e p_level p_b0 (by have:=fJ;omega) h_p_e
theorem Ol(p_e:aQ)(h_p_e:aP p_e.lf1≤100000000):Tot (apK p_e) Any:=by
 have:=jA p_e
 show MT (adf p_e) Any
 repeat' (first|exact MT.any|refine MT.say ?_|refine MT.ite (fun _=>?_) (fun _=>?_)|refine MT.mY ?_ (fun _ _=>?_)|exact⟨T.wk (Oj _ _ _ (by first|omega|decide))⟩)
theorem oI(p_p:aO)(p_inside:Bool)(h_p_p:aP p_p.lf1≤100000000):Tot (Q7 p_p p_inside) Any:=by
 have:=gK p_p
 have:=gX p_p.cO
 have:=dF p_p.fArg
 have:=fH p_p.fArgs
 have:=kS p_p.dI
 have:=jA p_p.fExpr
 have:=nR p_p.bC
 show MT (at6 p_p p_inside) Any
 refine MT.ask (R:=fun b_=>(b_=true→True)∧(b_=false→¬((p_p.fOp:Int)<1)∧¬((24:Int)<p_p.fOp)∧True)) ?_ ?_
 ·show MT (WI p_inside p_p) _
  refine MT.ite (fun c3156=>?_) (fun c3156=>?_)
  ·have c3156':=of_decide_eq_true c3156
   exact MT.say (MT.ret ⟨(fun _=>trivial),(fun h_=>by cases h_)⟩)
  ·have c3156':=of_decide_eq_false c3156
   exact MT.say (MT.ret ⟨(fun _=>trivial),(fun h_=>⟨(by first|assumption|omega),(of_decide_eq_false h_),trivial⟩)⟩)
 ·intro r3158 h3159 f_r3158
  refine MT.say (MT.ask (R:=fun b_=>(b_=true→True)∧(b_=false→r3158=false∧True)) ?_ ?_)
  ·show MT (WJ p_inside p_p r3158) _
   refine MT.ite (fun c3160=>?_) (fun c3160=>?_)
   ·exact MT.say (MT.ret ⟨(fun _=>trivial),(fun h_=>by cases h_)⟩)
   ·have q41:=f_r3158.2 (c3160)
    refine MT.say (MT.ask (R:=Any) ?_ ?_)
    ·exact T.wk (pI p_p.fOp (p_p.bC.length:Int) )
    ·intro r3161 h3162 _
     exact MT.say (MT.ret ⟨(fun _=>trivial),(fun h_=>⟨(by first|assumption|omega),trivial⟩)⟩)
  ·intro r3164 h3165 f_r3164
   refine MT.say (MT.ite (fun c3167=>?_) (fun c3167=>?_))
   ·exact MT.say MT.any
   ·have q42:=f_r3164.2 (c3167)
    have q43:=f_r3158.2 (q42.1)
    refine MT.say (MT.ask (R:=fun b_=>(b_=true→(p_p.fArgs.length:Int)=0∧True)∧(b_=false→True)) ?_ ?_)
    ·show MT (LX p_inside p_p) _
     refine MT.ask (R:=Any) ?_ ?_
     ·exact T.wk (iY p_p.fOp )
     ·intro r3291 h3292 _
      refine MT.say (MT.ite (fun c3293=>?_) (fun c3293=>?_))
      ·first|exact MT.say (MT.ret ⟨(fun h_=>⟨(by simpa using h_),trivial⟩),(fun _=>trivial)⟩)|exact MT.say (MT.say (MT.ret ⟨(fun h_=>⟨(by simpa using h_),trivial⟩),(fun _=>trivial)⟩))
      ·exact MT.say (MT.ret ⟨(fun h_=>by cases h_),(fun _=>trivial)⟩)
    ·intro r3295 h3296 f_r3295
     refine MT.say (MT.ask (R:=fun b_=>(b_=true→True)∧(b_=false→r3295=false∧True)) ?_ ?_)
     ·show MT (LY p_inside p_p r3295) _
      refine MT.ite (fun c3297=>?_) (fun c3297=>?_)
      ·have q44:=f_r3295.1 (c3297)
       exact MT.say (MT.ret ⟨(fun _=>trivial),(fun h_=>by cases h_)⟩)
      ·refine MT.say (MT.ask (R:=Any) ?_ ?_)
       ·exact T.wk (pJ p_p (by first|omega|(simp;done)|decide))
       ·intro r3298 h3299 _
        exact MT.say (MT.ret ⟨(fun _=>trivial),(fun h_=>⟨(by first|assumption|omega),trivial⟩)⟩)
     ·intro r3301 h3302 f_r3301
      refine MT.say (MT.ite (fun c3304=>?_) (fun c3304=>?_))
      ·exact MT.say MT.any
      ·have q45:=f_r3301.2 (c3304)
       refine MT.say (MT.ask (R:=Any) ?_ ?_)
       ·show MT (LZ p_inside p_p) Any
        refine MT.ask (R:=Any) ?_ ?_
        ·exact T.wk (kK p_p.fOp )
        ·intro r3319 h3320 _
         refine MT.say (MT.ite (fun c3321=>?_) (fun c3321=>?_))
         ·refine MT.say (MT.ask (R:=Any) ?_ ?_)
          ·exact T.wk (T.val (l9 p_p.cO))
          ·intro r3322 h3323 _
           exact MT.say MT.any
         ·exact MT.say MT.any
       ·intro r3325 h3326 _
        refine MT.say (MT.ask (R:=fun b_=>(b_=true→r3325=true∧True)∧(b_=false→True)) ?_ ?_)
        ·show MT (L6 p_inside p_p r3325) _
         refine MT.ite (fun c3327=>?_) (fun c3327=>?_)
         ·refine MT.say (MT.ite (fun c3328=>?_) (fun c3328=>?_))
          ·exact MT.say (MT.ret ⟨(fun h_=>⟨(by first|assumption|omega),trivial⟩),(fun h_=>by cases h_)⟩)
          ·first|exact MT.say (MT.ret ⟨(fun h_=>⟨(by first|assumption|omega),trivial⟩),(fun _=>trivial)⟩)|exact MT.say (MT.say (MT.ret ⟨(fun h_=>⟨(by first|assumption|omega),trivial⟩),(fun _=>trivial)⟩))
         ·exact MT.say (MT.ret ⟨(fun h_=>by cases h_),(fun _=>trivial)⟩)
        ·intro r3330 h3331 f_r3330
         refine MT.say (MT.ite (fun c3333=>?_) (fun c3333=>?_))
         ·have q46:=f_r3330.1 (c3333)
          exact MT.say MT.any
         ·refine MT.say (MT.ask (R:=Any) ?_ ?_)
          ·show MT (L8 p_p) Any
           refine MT.ask (R:=Any) ?_ ?_
           ·exact T.wk (jT p_p.fOp )
           ·intro r3357 h3358 _
            refine MT.say (MT.ite (fun c3359=>?_) (fun c3359=>?_))
            ·refine MT.say (MT.ask (R:=Any) ?_ ?_)
             ·exact T.wk (je p_p.fArg (by first|omega|(simp;done)|decide))
             ·intro r3360 h3361 _
              exact MT.say MT.any
            ·exact MT.say MT.any
          ·intro r3363 h3364 _
           refine MT.say (MT.ask (R:=fun b_=>(b_=true→True)∧(b_=false→r3363=false∧True)) ?_ ?_)
           ·show MT (L9 p_p r3363) _
            refine MT.ite (fun c3365=>?_) (fun c3365=>?_)
            ·exact MT.say (MT.ret ⟨(fun _=>trivial),(fun h_=>by cases h_)⟩)
            ·refine MT.say (MT.ask (R:=Any) ?_ ?_)
             ·exact T.wk (mD p_p.fOp )
             ·intro r3366 h3367 _
              refine MT.say (MT.ite (fun c3368=>?_) (fun c3368=>?_))
              ·exact MT.say (MT.ret ⟨(fun _=>trivial),(fun h_=>⟨(by first|assumption|omega),trivial⟩)⟩)
              ·exact MT.say (MT.ret ⟨(fun h_=>by cases h_),(fun h_=>⟨(by first|assumption|omega),trivial⟩)⟩)
           ·intro r3370 h3371 f_r3370
            refine MT.say (MT.ite (fun c3373=>?_) (fun c3373=>?_))
            ·exact MT.say MT.any
            ·have q47:=f_r3370.2 (c3373)
             refine MT.say (MT.ask (R:=Any) ?_ ?_)
             ·exact T.wk (iY p_p.fOp )
             ·intro r3376 h3377 _
              refine MT.say (MT.lI (R:=Any) ?_ ?_ ?_)
              ·show MT (Mc p_p r3376) Any
               refine MT.ite (fun c3407=>?_) (fun c3407=>?_)
               ·refine MT.say (MT.lI (R:=Any) ?_ ?_ ?_)
                ·refine T.cnt (fun _=>True) ?_
                 intro k48 hk48
                 show MT (yR p_p ((k48:Nat):Int)) _
                 refine MT.ite (fun c3415=>?_) (fun c3415=>?_)
                 ·have c3415':=of_decide_eq_true c3415
                  refine MT.say (MT.ask (eX p_p.fArgs ((k48:Nat):Int) (by omega) (by omega)) (fun x3416 _ hx49=>?_))
                  have:=gJ hx49
                  have:=dF x3416
                  refine MT.say (MT.ask (R:=Any) ?_ ?_)
                  ·exact T.wk (je x3416 (by first|omega|(simp;done)|decide))
                  ·intro r3418 h3419 _
                   refine MT.say (MT.ite (fun c3420=>?_) (fun c3420=>?_))
                   ·exact MT.say (MT.ret trivial)
                   ·exact MT.say (MT.ret ⟨rfl,by omega⟩)
                 ·have c3415':=of_decide_eq_false c3415
                  exact MT.say (MT.ret trivial)
                ·intro o3423 h3422 _
                 exact MT.say MT.any
                ·intro o3424 h3422 _
                 exact MT.say MT.any
               ·exact MT.say MT.any
              ·intro o3427 h3426 _
               exact MT.say MT.any
              ·intro o3428 h3426 _
               refine MT.say (MT.lI (R:=Any) ?_ ?_ ?_)
               ·show MT (Md p_p) Any
                refine MT.ite (fun c3509=>?_) (fun c3509=>?_)
                ·have c3509':p_p.fOp=18:=by simpa using c3509
                 refine MT.say (MT.ask (R:=Any) ?_ ?_)
                 ·exact T.wk (Px p_p.dI (by first|omega|(simp;done)|decide))
                 ·intro r3510 h3511 _
                  refine MT.say (MT.ite (fun c3512=>?_) (fun c3512=>?_))
                  ·have c3512':¬(r3510=0):=by simpa using c3512
                   exact MT.say MT.any
                  ·have c3512':r3510=0:=by simpa using c3512
                   exact MT.say MT.any
                ·have c3509':¬(p_p.fOp=18):=by simpa using c3509
                 exact MT.say MT.any
               ·intro o3517 h3516 _
                exact MT.say MT.any
               ·intro o3518 h3516 _
                refine MT.say (MT.ask (R:=Any) ?_ ?_)
                ·exact T.wk (BL p_p)
                ·intro r3721 h3722 _
                 refine MT.say (MT.ite (fun c3724=>?_) (fun c3724=>?_))
                 ·exact MT.say MT.any
                 ·refine MT.say (MT.ite (fun c4280=>?_) (fun c4280=>?_))
                  ·have c4280':p_p.fOp=24:=by simpa using c4280
                   refine MT.say (MT.ask (R:=Any) ?_ ?_)
                   ·exact T.wk (Ol p_p.fExpr (by first|omega|(simp;done)|decide))
                   ·intro r4283 h4284 _
                    exact MT.say MT.any
                  ·have c4280':¬(p_p.fOp=24):=by simpa using c4280
                   exact MT.say MT.any
theorem zu(n_:Nat):∀(p_p:aO) (p_inside:Bool),aP p_p.lf1<n_→aP p_p.lf1≤100000000→Tot ((oH n_).m1 p_p p_inside) Any:=by
 induction n_ with
 |zero=>intro p_p p_inside h;omega
 |succ n_ ih=>
  intro p_p p_inside h_ h_p_p
  have:=gK p_p
  have:=nR p_p.bC
  show MT (ZT (oH n_) p_p p_inside) Any
  refine MT.ask (R:=Any) ?_ ?_
  ·exact T.wk (oI p_p p_inside (by first|omega|(simp;done)|decide))
  ·intro r4287 h4288 _
   refine MT.say (MT.ite (fun c4290=>?_) (fun c4290=>?_))
   ·have c4290':¬(r4287=0):=by simpa using c4290
    exact MT.say MT.any
   ·have c4290':r4287=0:=by simpa using c4290
    refine MT.say (MT.lI (R:=Any) ?_ ?_ ?_)
    ·refine T.cnt (fun _=>True) ?_
     intro k50 hk50
     show MT (yS (oH n_) p_inside p_p ((k50:Nat):Int)) _
     refine MT.ite (fun c4363=>?_) (fun c4363=>?_)
     ·have c4363':=of_decide_eq_true c4363
      refine MT.say (MT.ask (eX p_p.bC ((k50:Nat):Int) (by omega) (by omega)) (fun x4364 _ hx51=>?_))
      have:=wz hx51
      have:=gK x4364
      refine MT.say (MT.ask (R:=Any) ?_ ?_)
      ·show MT (Me (oH n_) p_inside p_p ((k50:Nat):Int) x4364) Any
       refine MT.ite (fun c4366=>?_) (fun c4366=>?_)
       ·refine MT.say (MT.ask (R:=Any) ?_ ?_)
        ·exact(ih x4364 true (by omega) (by first|omega|(simp;done)|decide))
        ·intro r4367 h4368 _
         exact MT.say MT.any
       ·refine MT.say (MT.ask (R:=Any) ?_ ?_)
        ·exact(ih x4364 (p_p.fOp==15) (by omega) (by first|omega|(simp;done)|decide))
        ·intro r4369 h4370 _
         exact MT.say MT.any
      ·intro r4374 h4375 _
       refine MT.say (MT.ite (fun c4376=>?_) (fun c4376=>?_))
       ·have c4376':¬(r4374=0):=by simpa using c4376
        exact MT.say (MT.ret trivial)
       ·have c4376':r4374=0:=by simpa using c4376
        exact MT.say (MT.ret ⟨rfl,by omega⟩)
     ·have c4363':=of_decide_eq_false c4363
      exact MT.say (MT.ret trivial)
    ·intro o4381 h4380 _
     exact MT.say MT.any
    ·intro o4382 h4380 _
     exact MT.say MT.any
theorem BM(p_p:aO)(p_inside:Bool)(h_p_p:aP p_p.lf1≤100000000):Tot (Q59 p_p p_inside) Any:=zu FU p_p p_inside (by have:=fJ;omega) h_p_p
theorem BN(p_p:aO)(h_p_p:aP p_p.lf1≤100000000):Tot (apN p_p) Any:=by
 have:=gK p_p
 show MT (adl p_p) Any
 repeat' (first|exact MT.any|refine MT.say ?_|refine MT.ite (fun _=>?_) (fun _=>?_)|refine MT.mY ?_ (fun _ _=>?_)|exact⟨T.wk (BM _ _ (by first|omega|decide))⟩|exact⟨T.wk (Dp _ _ _ (by first|omega|decide))⟩)
theorem qF(p_v:ah):Tot (apP p_v) Any:=by
 show MT (adn p_v) Any
 repeat' (first|exact MT.any|refine MT.say ?_|refine MT.ite (fun _=>?_) (fun _=>?_)|refine MT.mY ?_ (fun _ _=>?_)|refine⟨(show MT _ Any from ?_)⟩)
theorem BO(p_x:aQ):Tot (apQ p_x) Any:=by
 show MT (ado p_x) Any
 repeat' (first|exact MT.any|refine MT.say ?_|refine MT.ite (fun _=>?_) (fun _=>?_)|refine MT.mY ?_ (fun _ _=>?_)|exact⟨T.wk (qF _)⟩|refine⟨(show MT _ Any from ?_)⟩)
theorem BP(p_p:aO):Tot (apS p_p) Any:=by
 show MT (adp p_p) Any
 repeat' (first|exact MT.any|refine MT.say ?_|refine MT.ite (fun _=>?_) (fun _=>?_)|refine MT.mY ?_ (fun _ _=>?_)|exact⟨T.wk (BO _)⟩|exact⟨T.wk (qF _)⟩|refine⟨(show MT _ Any from ?_)⟩)
theorem lu(p_x:aS)(h_p_x:aP p_x.lf1≤100000000):Tot (ZU p_x) Any:=by
 have:=jB p_x
 have:=lK p_x.fA
 have:=gK p_x.bM
 show MT (adq p_x) Any
 refine MT.say (MT.ask (R:=Any) ?_ ?_)
 ·exact T.wk (T.val (l9 [p_x.fName]))
 ·intro r2799 h2800 _
  refine MT.say (MT.ite (fun c2802=>?_) (fun c2802=>?_))
  ·exact MT.say MT.any
  ·refine MT.say (MT.ask (R:=fun b_=>(b_=true→True)∧(b_=false→¬((p_x.aF:Int)<1)∧¬((3:Int)<p_x.aF)∧True)) ?_ ?_)
   ·show MT (G6 p_x) _
    refine MT.ite (fun c2804=>?_) (fun c2804=>?_)
    ·have c2804':=of_decide_eq_true c2804
     exact MT.say (MT.ret ⟨(fun _=>trivial),(fun h_=>by cases h_)⟩)
    ·have c2804':=of_decide_eq_false c2804
     exact MT.say (MT.ret ⟨(fun _=>trivial),(fun h_=>⟨(by first|assumption|omega),(of_decide_eq_false h_),trivial⟩)⟩)
   ·intro r2806 h2807 f_r2806
    refine MT.say (MT.ite (fun c2809=>?_) (fun c2809=>?_))
    ·exact MT.say MT.any
    ·have q52:=f_r2806.2 (c2809)
     refine MT.say (MT.ask (R:=Any) ?_ ?_)
     ·exact T.wk (Jz p_x.fA (by first|omega|(simp;done)|decide))
     ·intro r3027 h3028 _
      refine MT.say (MT.ite (fun c3030=>?_) (fun c3030=>?_))
      ·have c3030':¬(r3027=0):=by simpa using c3030
       exact MT.say MT.any
      ·have c3030':r3027=0:=by simpa using c3030
       refine MT.say (MT.ask (R:=fun b_=>(b_=true→True)∧(b_=false→¬((p_x.fA.length:Int)=0)∧True)) ?_ ?_)
       ·show MT (G7 p_x) _
        refine MT.say (MT.ite (fun c3037=>?_) (fun c3037=>?_))
        ·have c3037':(p_x.fA.length:Int)=0:=by simpa using c3037
         exact MT.say (MT.ret ⟨(fun _=>trivial),(fun h_=>by cases h_)⟩)
        ·have c3037':¬((p_x.fA.length:Int)=0):=by simpa using c3037
         refine MT.say (MT.ite (fun c3038=>?_) (fun c3038=>?_))
         ·have c3038':¬(p_x.aF=1):=by simpa using c3038
          refine MT.say (MT.ite (fun c3039=>?_) (fun c3039=>?_))
          ·have c3039':=of_decide_eq_true c3039
           exact MT.say (MT.ret ⟨(fun _=>trivial),(fun h_=>by cases h_)⟩)
          ·have c3039':=of_decide_eq_false c3039
           refine MT.say (MT.ask (eX p_x.fA 0 (by omega) (by omega)) (fun x3040 _ hx53=>?_))
           have:=Bl hx53
           have:=kR x3040
           refine MT.say (MT.ite (fun c3042=>?_) (fun c3042=>?_))
           ·exact MT.say (MT.ret ⟨(fun _=>trivial),(fun h_=>by cases h_)⟩)
           ·exact MT.say (MT.ret ⟨(fun _=>trivial),(fun h_=>⟨(by first|assumption|omega),trivial⟩)⟩)
         ·have c3038':p_x.aF=1:=by simpa using c3038
          exact MT.say (MT.ret ⟨(fun h_=>by cases h_),(fun h_=>⟨(by first|assumption|omega),trivial⟩)⟩)
       ·intro r3044 h3045 f_r3044
        refine MT.say (MT.ite (fun c3047=>?_) (fun c3047=>?_))
        ·exact MT.say MT.any
        ·have q54:=f_r3044.2 (c3047)
         refine MT.say (MT.ite (fun c4387=>?_) (fun c4387=>?_))
         ·refine MT.say (MT.ask (R:=Any) ?_ ?_)
          ·exact T.wk (BN p_x.bM (by first|omega|(simp;done)|decide))
          ·intro r4390 h4391 _
           exact MT.say MT.any
         ·refine MT.say (MT.ask (R:=Any) ?_ ?_)
          ·exact T.wk (BP p_x.bM)
          ·intro r4492 h4493 _
           refine MT.say (MT.ite (fun c4495=>?_) (fun c4495=>?_))
           ·exact MT.say MT.any
           ·exact MT.say MT.any
theorem BQ(p_x:aS)(p_b0:ByteArray)(h_p_x:aP p_x.lf1≤100000000)(h_p_b0:p_b0.size≤100000000):Tot (aua p_x p_b0) Any:=by
 have:=jB p_x
 show MT (adr p_x p_b0) Any
 repeat' (first|exact MT.any|refine MT.say ?_|refine MT.ite (fun _=>?_) (fun _=>?_))
theorem qg(p_s:List aS)(p_b0:ByteArray)(h_p_s:bK (p_s.map aS.lf)≤100000000)(h_p_b0:p_b0.size≤100000000):Tot (Q60 p_s p_b0) Any:=by
 have:=jQ p_s
 show MT (ak0 p_s p_b0) Any
 refine MT.say (MT.lI (R:=Any) ?_ ?_ ?_)
 ·refine T.cnt (fun _=>True) ?_
  intro k55 hk55
  show MT (yT p_b0 p_s ((k55:Nat):Int)) _
  refine MT.ite (fun c4539=>?_) (fun c4539=>?_)
  ·have c4539':=of_decide_eq_true c4539
   refine MT.say (MT.ask (eX p_s ((k55:Nat):Int) (by omega) (by omega)) (fun x4540 _ hx56=>?_))
   have:=Iw hx56
   have:=jB x4540
   refine MT.say (MT.ask (R:=Any) ?_ ?_)
   ·exact T.wk (BQ x4540 p_b0 (by first|omega|(simp;done)|decide) (by first|omega|(simp;done)|decide))
   ·intro r4542 h4543 _
    refine MT.say (MT.ite (fun c4544=>?_) (fun c4544=>?_))
    ·exact MT.say (MT.ret trivial)
    ·exact MT.say (MT.ret ⟨rfl,by omega⟩)
  ·have c4539':=of_decide_eq_false c4539
   exact MT.say (MT.ret trivial)
 ·intro o4548 h4547 _
  exact MT.say MT.any
 ·intro o4549 h4547 _
  exact MT.say MT.any
theorem Fp(p_l:List aS)(p_name:ByteArray)(h_p_l:bK (p_l.map aS.lf)≤100000000)(h_p_name:p_name.size≤100000000):Tot (ak1 p_l p_name) Any:=by
 have:=jQ p_l
 show MT (adt p_l p_name) Any
 repeat' (first|exact MT.any|refine MT.say ?_|refine MT.ite (fun _=>?_) (fun _=>?_)|refine MT.mY ?_ (fun _ _=>?_)|exact⟨T.wk (qg _ _ (by first|omega|decide) (by first|omega|decide))⟩)
theorem wF(p_has:Bool)(p_v:ah)(h_p_v:aP p_v.lf1≤100000000):Tot (Q80 p_has p_v) Any:=by
 have:=dF p_v
 have:=fH p_v.aT
 have:=fK p_v.aW
 show MT (ak3 p_has p_v) Any
 repeat' (first|exact MT.any|refine MT.say ?_|refine MT.ite (fun _=>?_) (fun _=>?_)|refine MT.mY ?_ (fun _ _=>?_)|exact⟨T.wk (je _ (by first|omega|decide))⟩|refine⟨(show MT _ Any from ?_)⟩)
theorem qW(p_s:aI)(h_p_s:aP p_s.lf1≤100000000):Tot (Q9 p_s) Any:=by
 have:=fO p_s
 have:=dF p_s.kP
 have:=dF p_s.kQ
 have:=fH p_s.gZ
 have:=gX p_s.dW
 have:=lq p_s.cZ
 have:=lF p_s.dV
 show MT (auc p_s) Any
 refine MT.say (MT.lI (R:=Any) ?_ ?_ ?_)
 ·refine T.avS (fun _=>True) ?_
  intro k57 m4820 hk57 hmk57
  show MT (Eo p_s (((k57:Nat):Int),m4820)) _
  refine MT.ite (fun c4821=>?_) (fun c4821=>?_)
  ·have c4821':=of_decide_eq_true c4821
   refine MT.say (MT.ask (eX p_s.dW ((k57:Nat):Int) (by omega) (by omega)) (fun x4822 _ hx58=>?_))
   have:=J4 hx58
   refine MT.say (MT.ask (R:=Any) ?_ ?_)
   ·show MT (WL m4820 p_s ((k57:Nat):Int) x4822) Any
    refine MT.ask (R:=Any) ?_ ?_
    ·exact T.wk (T.val (Bq x4822))
    ·intro r4824 h4825 _
     refine MT.say (MT.ite (fun c4826=>?_) (fun c4826=>?_))
     ·exact MT.say MT.any
     ·first|exact MT.say MT.any|exact MT.say (MT.say MT.any)
   ·intro r4828 h4829 _
    refine MT.say (MT.ite (fun c4830=>?_) (fun c4830=>?_))
    ·exact MT.say (MT.ret trivial)
    ·refine MT.say (MT.grd (by unfold maxLen;omega) (fun _=>?_))
     exact MT.say (MT.ret ⟨rfl,by first|omega|(simp only[List.length_cons];omega),by omega⟩)
  ·have c4821':=of_decide_eq_false c4821
   exact MT.say (MT.ret trivial)
 ·intro o4834 h4833 _
  exact MT.say MT.any
 ·intro o4835 h4833 _
  refine MT.say (MT.lI (R:=Any) ?_ ?_ ?_)
  ·refine T.avS (fun _=>True) ?_
   intro k59 m4894 hk59 hmk59
   show MT (yU p_s (((k59:Nat):Int),m4894)) _
   refine MT.ite (fun c4895=>?_) (fun c4895=>?_)
   ·have c4895':=of_decide_eq_true c4895
    refine MT.say (MT.ask (eX p_s.cZ ((k59:Nat):Int) (by omega) (by omega)) (fun x4896 _ hx60=>?_))
    have:=EZ hx60
    have:=nP x4896
    refine MT.say (MT.ask (R:=Any) ?_ ?_)
    ·show MT (MG m4894 p_s ((k59:Nat):Int) x4896) Any
     refine MT.ask (R:=Any) ?_ ?_
     ·exact T.wk (T.val (Bq x4896.fName))
     ·intro r4898 h4899 _
      refine MT.say (MT.ite (fun c4900=>?_) (fun c4900=>?_))
      ·first|exact MT.say MT.any|exact MT.say (MT.say MT.any)
      ·first|exact MT.say MT.any|exact MT.say (MT.say MT.any)
    ·intro r4902 h4903 _
     refine MT.say (MT.ite (fun c4904=>?_) (fun c4904=>?_))
     ·exact MT.say (MT.ret trivial)
     ·refine MT.say (MT.grd (by unfold maxLen;omega) (fun _=>?_))
      exact MT.say (MT.ret ⟨rfl,by first|omega|(simp only[List.length_cons];omega),by omega⟩)
   ·have c4895':=of_decide_eq_false c4895
    exact MT.say (MT.ret trivial)
  ·intro o4908 h4907 _
   first|exact MT.say MT.any|exact MT.say (MT.say MT.any)
  ·intro o4909 h4907 _
   refine MT.say (MT.ask (R:=fun b_=>(b_=true→True)∧(b_=false→(eU .andNot .i64 p_s.ig 4094)=0∧¬((p_s.jD:Int)<0)∧True)) ?_ ?_)
   ·show MT (MH p_s) _
    refine MT.ite (fun c4922=>?_) (fun c4922=>?_)
    ·have c4922':¬((eU .andNot .i64 p_s.ig 4094)=0):=by simpa using c4922
     exact MT.say (MT.ret ⟨(fun _=>trivial),(fun h_=>by cases h_)⟩)
    ·have c4922':(eU .andNot .i64 p_s.ig 4094)=0:=by simpa using c4922
     exact MT.say (MT.ret ⟨(fun _=>trivial),(fun h_=>⟨(by first|assumption|omega),(of_decide_eq_false h_),trivial⟩)⟩)
   ·intro r4924 h4925 f_r4924
    refine MT.say (MT.ask (R:=fun b_=>(b_=true→True)∧(b_=false→r4924=false∧¬((p_s.jE:Int)<(-1))∧True)) ?_ ?_)
    ·show MT (MI p_s r4924) _
     refine MT.ite (fun c4926=>?_) (fun c4926=>?_)
     ·exact MT.say (MT.ret ⟨(fun _=>trivial),(fun h_=>by cases h_)⟩)
     ·have q61:=f_r4924.2 (c4926)
      exact MT.say (MT.ret ⟨(fun _=>trivial),(fun h_=>⟨(by first|assumption|omega),(of_decide_eq_false h_),trivial⟩)⟩)
    ·intro r4928 h4929 f_r4928
     refine MT.say (MT.ask (R:=fun b_=>(b_=true→True)∧(b_=false→r4928=false∧¬((1:Int)<(p_s.dV.length:Int))∧True)) ?_ ?_)
     ·show MT (MJ p_s r4928) _
      refine MT.ite (fun c4930=>?_) (fun c4930=>?_)
      ·first|exact MT.say (MT.ret ⟨(fun _=>trivial),(fun h_=>by cases h_)⟩)|exact MT.say (MT.say (MT.ret ⟨(fun _=>trivial),(fun h_=>by cases h_)⟩))
      ·have q62:=f_r4928.2 (c4930)
       have q63:=f_r4924.2 (q62.1)
       first|exact MT.say (MT.ret ⟨(fun _=>trivial),(fun h_=>⟨(by first|assumption|omega),(of_decide_eq_false h_),trivial⟩)⟩)|exact MT.say (MT.say (MT.ret ⟨(fun _=>trivial),(fun h_=>⟨(by first|assumption|omega),(of_decide_eq_false h_),trivial⟩)⟩))
     ·intro r4932 h4933 f_r4932
      refine MT.say (MT.ite (fun c4935=>?_) (fun c4935=>?_))
      ·first|exact MT.say MT.any|exact MT.say (MT.say MT.any)
      ·have q64:=f_r4932.2 (c4935)
       have q65:=f_r4928.2 (q64.1)
       have q66:=f_r4924.2 (q65.1)
       refine MT.say (MT.ask (R:=Any) ?_ ?_)
       ·show MT (MK p_s) Any
        refine MT.ask (R:=Any) ?_ ?_
        ·exact T.wk (wF p_s.iO p_s.kP (by first|omega|(simp;done)|decide))
        ·intro r4969 h4970 _
         refine MT.say (MT.ite (fun c4971=>?_) (fun c4971=>?_))
         ·first|exact MT.say MT.any|exact MT.say (MT.say MT.any)
         ·refine MT.say (MT.ask (R:=Any) ?_ ?_)
          ·exact T.wk (wF p_s.iP p_s.kQ (by first|omega|(simp;done)|decide))
          ·intro r4972 h4973 _
           first|exact MT.say MT.any|exact MT.say (MT.say MT.any)
       ·intro r4975 h4976 _
        refine MT.say (MT.ite (fun c4978=>?_) (fun c4978=>?_))
        ·first|exact MT.say MT.any|exact MT.say (MT.say MT.any)
        ·refine MT.say (MT.lI (R:=Any) ?_ ?_ ?_)
         ·refine T.cnt (fun _=>True) ?_
          intro k67 hk67
          show MT (yV p_s ((k67:Nat):Int)) _
          refine MT.ite (fun c5014=>?_) (fun c5014=>?_)
          ·have c5014':=of_decide_eq_true c5014
           refine MT.say (MT.ask (eX p_s.gZ ((k67:Nat):Int) (by omega) (by omega)) (fun x5015 _ hx68=>?_))
           have:=gJ hx68
           have:=dF x5015
           refine MT.say (MT.ask (R:=Any) ?_ ?_)
           ·exact T.wk (je x5015 (by first|omega|(simp;done)|decide))
           ·intro r5017 h5018 _
            refine MT.say (MT.ite (fun c5019=>?_) (fun c5019=>?_))
            ·first|exact MT.say (MT.ret trivial)|exact MT.say (MT.say (MT.ret trivial))
            ·first|exact MT.say (MT.ret ⟨rfl,by omega⟩)|exact MT.say (MT.say (MT.ret ⟨rfl,by omega⟩))
          ·have c5014':=of_decide_eq_false c5014
           first|exact MT.say (MT.ret trivial)|exact MT.say (MT.say (MT.ret trivial))
         ·intro o5022 h5021 _
          first|exact MT.say MT.any|exact MT.say (MT.say MT.any)
         ·intro o5023 h5021 _
          first|exact MT.say MT.any|exact MT.say (MT.say MT.any)
theorem Fq(n_:Nat):∀(p_s:aI) (p_level:Int) (p_b0:Int),aP p_s.lf1<n_→aP p_s.lf1≤100000000→Tot ((pq n_).m1 p_s p_level p_b0) Any:=by
 induction n_ with
 |zero=>intro p_s p_level p_b0 h;omega
 |succ n_ ih=>
  intro p_s p_level p_b0 h_ h_p_s
  have:=fO p_s
  have:=lq p_s.cZ
  have:=lF p_s.dV
  show MT (ML (pq n_) p_s p_level p_b0) Any
  refine MT.ask (R:=fun b_=>(b_=true→True)∧(b_=false→¬((16:Int)<p_level)∧¬(p_b0=64)∧True)) ?_ ?_
  ·show MT (Ep (pq n_) p_b0 p_level p_s) _
   refine MT.ite (fun c4629=>?_) (fun c4629=>?_)
   ·have c4629':=of_decide_eq_true c4629
    exact MT.say (MT.ret ⟨(fun _=>trivial),(fun h_=>by cases h_)⟩)
   ·have c4629':=of_decide_eq_false c4629
    exact MT.say (MT.ret ⟨(fun _=>trivial),(fun h_=>⟨(by first|assumption|omega),(by simpa using h_),trivial⟩)⟩)
  ·intro r4631 h4632 f_r4631
   refine MT.say (MT.ite (fun c4634=>?_) (fun c4634=>?_))
   ·exact MT.say MT.any
   ·have q69:=f_r4631.2 (c4634)
    refine MT.say (MT.ask (R:=Any) ?_ ?_)
    ·exact T.wk (qW p_s (by first|omega|(simp;done)|decide))
    ·intro r5026 h5027 _
     refine MT.say (MT.ite (fun c5029=>?_) (fun c5029=>?_))
     ·have c5029':¬(r5026=0):=by simpa using c5029
      exact MT.say MT.any
     ·have c5029':r5026=0:=by simpa using c5029
      refine MT.say (MT.lI (R:=Any) ?_ ?_ ?_)
      ·refine T.Pg (fun _=>True) ?_
       intro k70 v5071 hk70
       show MT (yX (pq n_) p_level p_s (((k70:Nat):Int),v5071)) _
       refine MT.ite (fun c5072=>?_) (fun c5072=>?_)
       ·have c5072':=of_decide_eq_true c5072
        refine MT.say (MT.ask (eX p_s.cZ ((k70:Nat):Int) (by omega) (by omega)) (fun x5073 _ hx71=>?_))
        have:=EZ hx71
        have:=nP x5073
        have:=fO x5073.bn
        refine MT.say (MT.ask (R:=Any) ?_ ?_)
        ·exact(ih x5073.bn (IntKind.wrap .i64 (p_level+1)) v5071 (by omega) (by first|omega|(simp;done)|decide))
        ·intro r5075 h5076 _
         refine MT.say (MT.ite (fun c5077=>?_) (fun c5077=>?_))
         ·have c5077':¬(r5075.1=0):=by simpa using c5077
          exact MT.say (MT.ret trivial)
         ·have c5077':r5075.1=0:=by simpa using c5077
          exact MT.say (MT.ret ⟨rfl,by omega⟩)
       ·have c5072':=of_decide_eq_false c5072
        exact MT.say (MT.ret trivial)
      ·intro o5085 h5084 _
       exact MT.say MT.any
      ·intro o5086 h5084 _
       refine MT.say (MT.lI (R:=Any) ?_ ?_ ?_)
       ·refine T.Pg (fun _=>True) ?_
        intro k72 v5126 hk72
        show MT (vG (pq n_) p_level p_s (((k72:Nat):Int),v5126)) _
        refine MT.ite (fun c5127=>?_) (fun c5127=>?_)
        ·have c5127':=of_decide_eq_true c5127
         refine MT.say (MT.ask (eX p_s.dV ((k72:Nat):Int) (by omega) (by omega)) (fun x5128 _ hx73=>?_))
         have:=xB hx73
         have:=fO x5128
         refine MT.say (MT.ask (R:=Any) ?_ ?_)
         ·exact(ih x5128 (IntKind.wrap .i64 (p_level+1)) v5126 (by omega) (by first|omega|(simp;done)|decide))
         ·intro r5130 h5131 _
          refine MT.say (MT.ite (fun c5132=>?_) (fun c5132=>?_))
          ·have c5132':¬(r5130.1=0):=by simpa using c5132
           exact MT.say (MT.ret trivial)
          ·have c5132':r5130.1=0:=by simpa using c5132
           exact MT.say (MT.ret ⟨rfl,by omega⟩)
        ·have c5127':=of_decide_eq_false c5127
         exact MT.say (MT.ret trivial)
       ·intro o5138 h5137 _
        exact MT.say MT.any
       ·intro o5139 h5137 _
        exact MT.say MT.any
theorem IJ(p_s:aI)(p_level:Int)(p_b0:Int)(h_p_s:aP p_s.lf1≤100000000):Tot (Q52 p_s p_level p_b0) Any:=Fq FU p_s p_level p_b0 (by have:=fJ;omega) h_p_s
theorem IK(p_s:aI)(h_p_s:aP p_s.lf1≤100000000):Tot (apY p_s) Any:=by
 have:=fO p_s
 show MT (adx p_s) Any
 repeat' (first|exact MT.any|refine MT.say ?_|refine MT.ite (fun _=>?_) (fun _=>?_)|refine MT.mY ?_ (fun _ _=>?_)|exact⟨T.wk (IJ _ _ _ (by first|omega|decide))⟩)
theorem uj(p_d:bW)(h_p_d:aP p_d.lf1≤100000000):Tot (Q65 p_d) Any:=by
 have:=lJ p_d
 have:=jQ p_d.bJ
 have:=fO p_d.bn
 show MT (ak6 p_d) Any
 refine MT.ask (R:=Any) ?_ ?_
 ·exact T.wk (T.val (U0 p_d.fName))
 ·intro r2597 h2598 _
  refine MT.say (MT.ite (fun c2600=>?_) (fun c2600=>?_))
  ·exact MT.say MT.any
  ·refine MT.say (MT.ite (fun c2602=>?_) (fun c2602=>?_))
   ·have c2602':=of_decide_eq_true c2602
    exact MT.say MT.any
   ·have c2602':=of_decide_eq_false c2602
    refine MT.say (MT.lI (R:=Any) ?_ ?_ ?_)
    ·refine T.cnt (fun _=>True) ?_
     intro k74 hk74
     have:=jF aS.lf p_d.bJ (((k74:Nat):Int).toNat)
     have:=jQ (p_d.bJ.take ((k74:Nat):Int).toNat)
     show MT (yY p_d ((k74:Nat):Int)) _
     refine MT.ite (fun c4597=>?_) (fun c4597=>?_)
     ·have c4597':=of_decide_eq_true c4597
      refine MT.say (MT.ask (eX p_d.bJ ((k74:Nat):Int) (by omega) (by omega)) (fun x4598 _ hx75=>?_))
      have:=Iw hx75
      have:=jB x4598
      refine MT.say (MT.ask (R:=Any) ?_ ?_)
      ·exact T.wk (lu x4598 (by first|omega|(simp;done)|decide))
      ·intro r4600 h4601 _
       refine MT.say (MT.ite (fun c4602=>?_) (fun c4602=>?_))
       ·have c4602':¬(r4600=0):=by simpa using c4602
        exact MT.say (MT.ret trivial)
       ·have c4602':r4600=0:=by simpa using c4602
        refine MT.say (MT.grd (by omega) (fun _=>?_))
        refine MT.say (MT.ask (R:=Any) ?_ ?_)
        ·exact T.wk (Fp (p_d.bJ.take ((k74:Nat):Int).toNat) x4598.fName (Nat.le_trans (jF _ _ _) (by omega)) (by first|omega|(simp;done)|decide))
        ·intro r4604 h4605 _
         refine MT.say (MT.ite (fun c4606=>?_) (fun c4606=>?_))
         ·have c4606':=of_decide_eq_true c4606
          exact MT.say (MT.ret trivial)
         ·have c4606':=of_decide_eq_false c4606
          exact MT.say (MT.ret ⟨rfl,by omega⟩)
     ·have c4597':=of_decide_eq_false c4597
      exact MT.say (MT.ret trivial)
    ·intro o4612 h4611 _
     exact MT.say MT.any
    ·intro o4613 h4611 _
     refine MT.say (MT.ask (R:=fun b_=>(b_=true→True)∧(b_=false→¬((p_d.jZ:Int)<0)∧¬((2:Int)<p_d.jZ)∧True)) ?_ ?_)
     ·show MT (MO p_d) _
      refine MT.ite (fun c4615=>?_) (fun c4615=>?_)
      ·have c4615':=of_decide_eq_true c4615
       exact MT.say (MT.ret ⟨(fun _=>trivial),(fun h_=>by cases h_)⟩)
      ·have c4615':=of_decide_eq_false c4615
       exact MT.say (MT.ret ⟨(fun _=>trivial),(fun h_=>⟨(by first|assumption|omega),(of_decide_eq_false h_),trivial⟩)⟩)
     ·intro r4617 h4618 f_r4617
      refine MT.say (MT.ite (fun c4620=>?_) (fun c4620=>?_))
      ·exact MT.say MT.any
      ·have q76:=f_r4617.2 (c4620)
       refine MT.say (MT.ask (R:=fun b_=>(b_=true→¬(p_d.iI=0)∧¬(p_d.iI=1)∧True)∧(b_=false→True)) ?_ ?_)
       ·show MT (G8 p_d) _
        refine MT.ite (fun c4622=>?_) (fun c4622=>?_)
        ·have c4622':¬(p_d.iI=0):=by simpa using c4622
         exact MT.say (MT.ret ⟨(fun h_=>⟨(by first|assumption|omega),(by simpa using h_),trivial⟩),(fun _=>trivial)⟩)
        ·have c4622':p_d.iI=0:=by simpa using c4622
         exact MT.say (MT.ret ⟨(fun h_=>by cases h_),(fun _=>trivial)⟩)
       ·intro r4624 h4625 f_r4624
        refine MT.say (MT.ite (fun c4627=>?_) (fun c4627=>?_))
        ·have q77:=f_r4624.1 (c4627)
         exact MT.say MT.any
        ·refine MT.say (MT.ask (R:=Any) ?_ ?_)
         ·exact T.wk (IK p_d.bn (by first|omega|(simp;done)|decide))
         ·intro r5142 h5143 _
          exact MT.say MT.any
theorem yx(n_:Nat):∀(p_w:aG) (p_least:Int) (p_greatest:Int),aP p_w.lf1<n_→aP p_w.lf1≤100000000→Tot ((lV n_).m1 p_w p_least p_greatest) Any:=by
 induction n_ with
 |zero=>intro p_w p_least p_greatest h;omega
 |succ n_ ih=>
  intro p_w p_least p_greatest h_ h_p_w
  have:=jJ p_w
  have:=lJ p_w.dO
  have:=jB p_w.bf
  have:=su p_w.bP
  have:=zk p_w.dK
  show MT (adz (lV n_) p_w p_least p_greatest) Any
  refine MT.ask (R:=Any) ?_ ?_
  ·exact T.wk (wC p_w.aF)
  ·intro r260 h261 _
   refine MT.say (MT.ask (R:=fun b_=>(b_=true→True)∧(b_=false→¬((p_w.aF:Int)<p_least)∧¬((p_greatest:Int)<p_w.aF)∧True)) ?_ ?_)
   ·show MT (WQ (lV n_) p_greatest p_least p_w r260) _
    refine MT.ite (fun c597=>?_) (fun c597=>?_)
    ·have c597':=of_decide_eq_true c597
     exact MT.say (MT.ret ⟨(fun _=>trivial),(fun h_=>by cases h_)⟩)
    ·have c597':=of_decide_eq_false c597
     exact MT.say (MT.ret ⟨(fun _=>trivial),(fun h_=>⟨(by first|assumption|omega),(of_decide_eq_false h_),trivial⟩)⟩)
   ·intro r599 h600 f_r599
    refine MT.say (MT.ask (R:=fun b_=>(b_=true→True)∧(b_=false→r599=false∧True)) ?_ ?_)
    ·show MT (WR (lV n_) p_greatest p_w r260 r599) _
     refine MT.ite (fun c601=>?_) (fun c601=>?_)
     ·exact MT.say (MT.ret ⟨(fun _=>trivial),(fun h_=>by cases h_)⟩)
     ·have q78:=f_r599.2 (c601)
      refine MT.say (MT.ask (R:=Any) ?_ ?_)
      ·exact T.wk (lM p_w)
      ·intro r602 h603 _
       exact MT.say (MT.ret ⟨(fun _=>trivial),(fun h_=>⟨(by first|assumption|omega),trivial⟩)⟩)
    ·intro r605 h606 f_r605
     refine MT.say (MT.ask (R:=fun b_=>(b_=true→True)∧(b_=false→r605=false∧True)) ?_ ?_)
     ·show MT (MP (lV n_) p_greatest p_w r260 r605) _
      refine MT.ite (fun c607=>?_) (fun c607=>?_)
      ·exact MT.say (MT.ret ⟨(fun _=>trivial),(fun h_=>by cases h_)⟩)
      ·have q79:=f_r605.2 (c607)
       have q80:=f_r599.2 (q79.1)
       refine MT.say (MT.ite (fun c608=>?_) (fun c608=>?_))
       ·first|exact MT.say (MT.ret ⟨(fun _=>trivial),(fun h_=>⟨(by first|assumption|omega),trivial⟩)⟩)|exact MT.say (MT.say (MT.ret ⟨(fun _=>trivial),(fun h_=>⟨(by first|assumption|omega),trivial⟩)⟩))
       ·exact MT.say (MT.ret ⟨(fun h_=>by cases h_),(fun h_=>⟨(by first|assumption|omega),trivial⟩)⟩)
     ·intro r610 h611 f_r610
      refine MT.say (MT.ite (fun c613=>?_) (fun c613=>?_))
      ·exact MT.say MT.any
      ·have q81:=f_r610.2 (c613)
       have q82:=f_r605.2 (q81.1)
       have q83:=f_r599.2 (q82.1)
       refine MT.say (MT.ite (fun c615=>?_) (fun c615=>?_))
       ·have c615':=of_decide_eq_true c615
        exact MT.say MT.any
       ·have c615':=of_decide_eq_false c615
        refine MT.say (MT.ask (R:=Any) ?_ ?_)
        ·show MT (MQ (lV n_) p_greatest p_w r260) Any
         refine MT.ite (fun c636=>?_) (fun c636=>?_)
         ·refine MT.say (MT.ask (R:=Any) ?_ ?_)
          ·exact T.wk (T.val (rF p_w.fV))
          ·intro r637 h638 _
           exact MT.say MT.any
         ·exact MT.say MT.any
        ·intro r640 h641 _
         refine MT.say (MT.ask (R:=fun b_=>(b_=true→True)∧(b_=false→r640=false∧True)) ?_ ?_)
         ·show MT (MR (lV n_) p_greatest p_w r260 r640) _
          refine MT.ite (fun c642=>?_) (fun c642=>?_)
          ·exact MT.say (MT.ret ⟨(fun _=>trivial),(fun h_=>by cases h_)⟩)
          ·refine MT.say (MT.ite (fun c643=>?_) (fun c643=>?_))
           ·refine MT.say (MT.ask (R:=Any) ?_ ?_)
            ·exact T.wk (T.val (rF p_w.mO))
            ·intro r644 h645 _
             exact MT.say (MT.ret ⟨(fun _=>trivial),(fun h_=>⟨(by first|assumption|omega),trivial⟩)⟩)
           ·exact MT.say (MT.ret ⟨(fun h_=>by cases h_),(fun h_=>⟨(by first|assumption|omega),trivial⟩)⟩)
         ·intro r647 h648 f_r647
          refine MT.say (MT.ask (R:=fun b_=>(b_=true→True)∧(b_=false→r647=false∧True)) ?_ ?_)
          ·show MT (MS (lV n_) p_greatest p_w r260 r647) _
           refine MT.ite (fun c649=>?_) (fun c649=>?_)
           ·exact MT.say (MT.ret ⟨(fun _=>trivial),(fun h_=>by cases h_)⟩)
           ·have q84:=f_r647.2 (c649)
            refine MT.say (MT.ite (fun c650=>?_) (fun c650=>?_))
            ·refine MT.say (MT.ask (R:=Any) ?_ ?_)
             ·exact T.wk (T.val (rF p_w.bf.fName))
             ·intro r651 h652 _
              exact MT.say (MT.ret ⟨(fun _=>trivial),(fun h_=>⟨(by first|assumption|omega),trivial⟩)⟩)
            ·exact MT.say (MT.ret ⟨(fun h_=>by cases h_),(fun h_=>⟨(by first|assumption|omega),trivial⟩)⟩)
          ·intro r654 h655 f_r654
           refine MT.say (MT.ite (fun c657=>?_) (fun c657=>?_))
           ·exact MT.say MT.any
           ·have q85:=f_r654.2 (c657)
            have q86:=f_r647.2 (q85.1)
            refine MT.say (MT.ask (R:=Any) ?_ ?_)
            ·show MT (MV (lV n_) p_greatest p_w r260) Any
             refine MT.ite (fun c776=>?_) (fun c776=>?_)
             ·refine MT.say (MT.ask (R:=Any) ?_ ?_)
              ·exact T.wk (zq p_w)
              ·intro r777 h778 _
               exact MT.say MT.any
             ·exact MT.say MT.any
            ·intro r780 h781 _
             refine MT.say (MT.ask (R:=fun b_=>(b_=true→True)∧(b_=false→r780=false∧True)) ?_ ?_)
             ·show MT (MW (lV n_) p_greatest p_w r260 r780) _
              refine MT.ite (fun c782=>?_) (fun c782=>?_)
              ·exact MT.say (MT.ret ⟨(fun _=>trivial),(fun h_=>by cases h_)⟩)
              ·refine MT.say (MT.ite (fun c783=>?_) (fun c783=>?_))
               ·refine MT.say (MT.ask (R:=Any) ?_ ?_)
                ·exact T.wk (yw p_w.dK (by first|omega|(simp;done)|decide))
                ·intro r784 h785 _
                 exact MT.say (MT.ret ⟨(fun _=>trivial),(fun h_=>⟨(by first|assumption|omega),trivial⟩)⟩)
               ·exact MT.say (MT.ret ⟨(fun h_=>by cases h_),(fun h_=>⟨(by first|assumption|omega),trivial⟩)⟩)
             ·intro r787 h788 f_r787
              refine MT.say (MT.ite (fun c790=>?_) (fun c790=>?_))
              ·exact MT.say MT.any
              ·have q87:=f_r787.2 (c790)
               refine MT.say (MT.lI (R:=Any) ?_ ?_ ?_)
               ·show MT (MX (lV n_) p_greatest p_w r260) Any
                refine MT.ite (fun c2457=>?_) (fun c2457=>?_)
                ·refine MT.say (MT.ask (R:=Any) ?_ ?_)
                 ·exact T.wk (BI p_w (by first|omega|(simp;done)|decide))
                 ·intro r2458 h2459 _
                  refine MT.say (MT.ite (fun c2460=>?_) (fun c2460=>?_))
                  ·have c2460':¬(r2458=0):=by simpa using c2460
                   exact MT.say MT.any
                  ·have c2460':r2458=0:=by simpa using c2460
                   exact MT.say MT.any
                ·exact MT.say MT.any
               ·intro o2465 h2464 _
                exact MT.say MT.any
               ·intro o2466 h2464 _
                refine MT.say (MT.lI (R:=Any) ?_ ?_ ?_)
                ·show MT (MZ (lV n_) p_greatest p_w) Any
                 refine MT.ite (fun c5151=>?_) (fun c5151=>?_)
                 ·have c5151':p_w.aF=4:=by simpa using c5151
                  refine MT.say (MT.ask (R:=Any) ?_ ?_)
                  ·exact T.wk (uj p_w.dO (by first|omega|(simp;done)|decide))
                  ·intro r5152 h5153 _
                   exact MT.say MT.any
                 ·have c5151':¬(p_w.aF=4):=by simpa using c5151
                  refine MT.say (MT.ite (fun c5154=>?_) (fun c5154=>?_))
                  ·have c5154':p_w.aF=6:=by simpa using c5154
                   refine MT.say (MT.ask (R:=Any) ?_ ?_)
                   ·exact T.wk (lu p_w.bf (by first|omega|(simp;done)|decide))
                   ·intro r5155 h5156 _
                    exact MT.say MT.any
                  ·have c5154':¬(p_w.aF=6):=by simpa using c5154
                   refine MT.say (MT.ite (fun c5157=>?_) (fun c5157=>?_))
                   ·have c5157':p_w.aF=8:=by simpa using c5157
                    exact MT.say MT.any
                   ·have c5157':¬(p_w.aF=8):=by simpa using c5157
                    refine MT.say (MT.ite (fun c5158=>?_) (fun c5158=>?_))
                    ·have c5158':p_w.aF=9:=by simpa using c5158
                     exact MT.say MT.any
                    ·have c5158':¬(p_w.aF=9):=by simpa using c5158
                     exact MT.say MT.any
                ·intro o5165 h5164 _
                 exact MT.say MT.any
                ·intro o5166 h5164 _
                 refine MT.say (MT.lI (R:=Any) ?_ ?_ ?_)
                 ·refine T.cnt (fun _=>True) ?_
                  intro k88 hk88
                  show MT (rU (lV n_) o5166 p_w ((k88:Nat):Int)) _
                  refine MT.ite (fun c5203=>?_) (fun c5203=>?_)
                  ·have c5203':=of_decide_eq_true c5203
                   refine MT.say (MT.ask (eX p_w.bP ((k88:Nat):Int) (by omega) (by omega)) (fun x5204 _ hx89=>?_))
                   have:=UN hx89
                   have:=jJ x5204
                   refine MT.say (MT.ask (R:=Any) ?_ ?_)
                   ·exact(ih x5204 2 o5166 (by omega) (by first|omega|(simp;done)|decide))
                   ·intro r5206 h5207 _
                    refine MT.say (MT.ite (fun c5208=>?_) (fun c5208=>?_))
                    ·have c5208':¬(r5206=0):=by simpa using c5208
                     exact MT.say (MT.ret trivial)
                    ·have c5208':r5206=0:=by simpa using c5208
                     exact MT.say (MT.ret ⟨rfl,by omega⟩)
                  ·have c5203':=of_decide_eq_false c5203
                   exact MT.say (MT.ret trivial)
                 ·intro o5212 h5211 _
                  exact MT.say MT.any
                 ·intro o5213 h5211 _
                  exact MT.say MT.any
theorem zx(p_w:aG)(p_least:Int)(p_greatest:Int)(h_p_w:aP p_w.lf1≤100000000):Tot (Q4 p_w p_least p_greatest) Any:=yx FU p_w p_least p_greatest (by have:=fJ;omega) h_p_w
theorem JD(p_e:bY)(h_p_e:aP p_e.lf1≤100000000):Tot (ah3 p_e) Any:=by
 have:=pW p_e
 have:=jJ p_e.dh
 show MT (adA p_e) Any
 repeat' (first|exact MT.any|refine MT.say ?_|refine MT.ite (fun _=>?_) (fun _=>?_)|refine MT.mY ?_ (fun _ _=>?_)|exact⟨T.wk (T.val (rF _))⟩|exact⟨T.wk (zx _ _ _ (by first|omega|decide))⟩|refine⟨(show MT _ Any from ?_)⟩)
end Go.Proofs.YtflpefkohpjjpaaGreatDoor
set_option linter.unusedSimpArgs false
set_option linter.unusedVariables false
namespace Go.Proofs.YtflpefkohpjjpaaGreatDoor
open Go.RowKit
theorem anH(s:ByteArray)(i n:Nat)(hs:s.size≤100000000)(hi:i≤s.size)(h1:n≤3):Q90 s (i:Int) (n:Int)=some (nY (rest s i) n):=by
 unfold Q90 asa
 simp only[Mo.den,au,aj,ak,ay,aA]
 rw[w64 (by omega) (by omega)]
 by_cases h:s.size<i+n
 ·rw[decide_eq_true (show(s.size:Int)<(i:Int)+(n:Int) by omega)]
  show some false=some (nY (rest s i) n)
  unfold nY
  rw[zy,decide_eq_false (show ¬n≤s.size-i by omega)];rfl
 rw[decide_eq_false (show ¬(s.size:Int)<(i:Int)+(n:Int) by omega)]
 have key:Tot (al5 (i:Int) (n:Int) s 0) (fun r=>match r with|.inl _=>nY (rest s i) n=false|.inr _=>nY (rest s i) n=true):=by
  have hT:nY (rest s i) n=((rest s i).take n).all fun c=>iU c.toNat:=by
   unfold nY;rw[zy,decide_eq_true (show n≤s.size-i by omega)];rfl
  rw[hT]
  refine T.nV n (by omega) (fun k v=>v=(k:Int)∧((rest s i).take k).all (fun c=>iU c.toNat)=true) _ ⟨rfl,rfl⟩ ?_ ?_
  ·rintro k v hk ⟨rfl,he⟩
   have hlt:i+k<s.size:=by omega
   have e:jY s (IntKind.wrap .i64 ((i:Int)+(k:Int)))=some s[i+k]:=by
    rw[w64 (by omega) (by omega),show(i:Int)+(k:Int)=((i+k:Nat):Int) by omega];exact pz s _ hlt
   have hg:=abz s i k hlt
   have hc:iU s[i+k].toNat=(decide (128≤s[i+k].toNat)&&decide (s[i+k].toNat≤191)):=rfl
   simp only[Ew,aac,Mo.den,au,aj,ak,ay,aA,iLt hk,cond_true,e,Option.bind_some]
   have bad:iU s[i+k].toNat=false→((rest s i).take n).all (fun c=>iU c.toNat)=false:=fun h=>by
    rw[List.all_eq_false]
    have hm:(s[i+k])∈(rest s i).take n:=List.mem_of_getElem? (by rw[List.getElem?_take_of_lt hk];exact hg)
    exact⟨_,hm,by rw[h];exact Bool.false_ne_true⟩
   by_cases a1:s[i+k].toNat<128
   ·rw[decide_eq_true (show(s[i+k].toNat:Int)<128 by omega)]
    simp only[cond_true,Option.bind_some]
    exact T.ret (bad (by rw[hc,decide_eq_false (show ¬128≤s[i+k].toNat by omega)];rfl))
   rw[decide_eq_false (show ¬(s[i+k].toNat:Int)<128 by omega)];simp only[cond_false,Option.bind_some]
   by_cases a2:191<s[i+k].toNat
   ·rw[decide_eq_true (show(191:Int)<(s[i+k].toNat:Int) by omega)]
    simp only[cond_true]
    exact T.ret (bad (by rw[hc,decide_eq_false (show ¬s[i+k].toNat≤191 by omega),Bool.and_false]))
   rw[decide_eq_false (show ¬(191:Int)<(s[i+k].toNat:Int) by omega)];simp only[cond_false]
   refine T.ret ⟨inc k (by omega),?_⟩
   rw[zn _ hg,he,hc,decide_eq_true (show 128≤s[i+k].toNat by omega),decide_eq_true (show s[i+k].toNat≤191 by omega)];rfl
  ·rintro v ⟨rfl,he⟩
   simp only[Ew,Mo.den,au,aj,ak,ay,aA,ltn,cond_false]
   exact T.ret he
 obtain⟨r,h,hr⟩:=key
 simp only[cond_false,h,Option.bind_some]
 rcases r with r|r
 ·have hr:_=false:=hr
  rw[hr]
 ·have hr:_=true:=hr
  rw[hr]
theorem anI(b:UInt8)(s:ByteArray)(v:Int):Xv b s v=some (match rP b.toNat with|none=>.inr ()|some n=>.inl (n:Int)):=by
 unfold Xv Nu agr ags aad rP
 simp only[Mo.den,au,aj,ak,ay,aA]
 generalize b.toNat=n
 by_cases a0:n<128
 ·rw[decide_eq_true (show(n:Int)<128 by omega),if_pos a0];rfl
 rw[decide_eq_false (show ¬(n:Int)<128 by omega),if_neg a0];simp only[cond_false]
 by_cases a1:n<194
 ·rw[decide_eq_false (show ¬(194:Int)≤n by omega),decide_eq_false (show ¬(224:Int)≤n by omega),decide_eq_false (show ¬(240:Int)≤n by omega),if_neg (by omega),if_neg (by omega),if_neg (by omega)];rfl
 rw[decide_eq_true (show(194:Int)≤n by omega)];simp only[cond_true,Option.bind_some]
 by_cases a2:n≤223
 ·rw[decide_eq_true (show(n:Int)≤223 by omega),if_pos (by omega)];rfl
 rw[decide_eq_false (show ¬(n:Int)≤223 by omega),decide_eq_true (show(224:Int)≤n by omega),if_neg (by omega)];simp only[cond_false,cond_true,Option.bind_some]
 by_cases a3:n≤239
 ·rw[decide_eq_true (show(n:Int)≤239 by omega),if_pos (by omega)];rfl
 rw[decide_eq_false (show ¬(n:Int)≤239 by omega),decide_eq_true (show(240:Int)≤n by omega),if_neg (by omega)];simp only[cond_false,cond_true,Option.bind_some]
 by_cases a4:n≤244
 ·rw[decide_eq_true (show(n:Int)≤244 by omega),if_pos (by omega)];rfl
 ·rw[decide_eq_false (show ¬(n:Int)≤244 by omega),if_neg (by omega)];rfl
theorem arJ{b n:Nat}(h:rP b=some n):n≤3∧(n=0→b<128):=by
 unfold rP at h
 repeat' split at h
 all_goals first|cases h|skip
 all_goals omega
theorem aiU(b1 b2 b3 b4 d1 d2 d3 d4:Bool){β:Type}(K:Bool→Option β):((bif b1 then some d1 else some false).bind fun r1=>(bif r1 then some true else bif b2 then some d2 else some false).bind fun r2=>(bif r2 then some true else bif b3 then some d3 else some false).bind fun r3=>(bif r3 then some true else bif b4 then some d4 else some false).bind fun r4=>K r4)=K ((b1&&d1)||(b2&&d2)||(b3&&d3)||(b4&&d4)):=by
 cases b1<;>cases d1<;>cases b2<;>cases d2<;>cases b3<;>cases d3<;>cases b4<;>rfl
theorem anJ(s:ByteArray)(hs:s.size≤100000000):Q1 s=some (xX s):=by
 have key:Tot (al6 s 0) (fun r=>match r with|.inl _=>xX s=false|.inr _=>xX s=true):=by
  refine rO (T:=fun v_=>(vJ s v_).den) (fun v:Int=>∃k:Nat,v=(k:Int)∧k≤s.size∧xX s=Lib.validD (rest s k)) (fun v:Int=>s.size-v.toNat) _ ?_ FU 0 ⟨0,rfl,Nat.zero_le _,rfl⟩ (by have:=fJ;omega)
  rintro v ⟨k,rfl,hk,he⟩
  have key:Tot (vJ s (k:Int)).den (LP (fun v'=>∃k':Nat,v'=(k':Int)∧k<k'∧k'≤s.size∧xX s=Lib.validD (rest s k')) (fun r=>match r with|.inl _=>xX s=false|.inr _=>xX s=true)):=by
   by_cases hlt:k<s.size
   ·simp only[vJ,Mo.den,au,aj,ak,ay,aA,iLt hlt,cond_true,pz s k hlt,Option.bind_some,anI]
    cases hu:rP s[k].toNat with
    |none=>exact T.ret (show _=false from he.trans (anF s k hlt hu))
    |some n=>
     obtain⟨hn,hn0⟩:=arJ hu
     simp only[]
     rw[inc k (by omega),anH s (k+1) n hs (by omega) hn]
     simp only[Option.bind_some]
     cases ht:nY (rest s (k+1)) n with
     |false=>exact T.ret (show _=false from he.trans (anG s k n hlt hu ht))
     |true=>
      have hlen:=aiT s (k+1) n ht
      have hodd:∃c:Nat,((rest s k).getD 1 0).toNat=c∧∀{β:Type} (K:Bool→Option β),((ad1 s[k] (n:Int) s (k:Int)).bind fun r1=>(ad2 s[k] (n:Int) s r1 (k:Int)).bind fun r2=>(ad3 s[k] (n:Int) s r2 (k:Int)).bind fun r3=>(ad4 s[k] (n:Int) s r3 (k:Int)).bind fun r4=>K r4)=K (sZ s[k].toNat c):=by
       unfold ad1 aaf ad2 aag ad3 aah ad4 aai
       simp only[Mo.den,au,aj,ak,ay,aA]
       rw[inc k (by omega)]
       have eb:∀a:Nat,((s[k].toNat:Int)==(a:Int))=(s[k].toNat==a):=fun a=>by rw[Bool.eq_iff_iff];simp;omega
       have e1:=eb 224
       have e2:=eb 237
       have e3:=eb 240
       have e4:=eb 244
       simp only[Int.cast_ofNat_Int] at e1 e2 e3 e4
       rw[e1,e2,e3,e4]
       by_cases h0:n=0
       ·have hb:=hn0 h0
        refine⟨_,rfl,fun K=>?_⟩
        rw[show(s[k].toNat==224)=false by rw[beq_eq_false_iff_ne];omega,show(s[k].toNat==237)=false by rw[beq_eq_false_iff_ne];omega,show(s[k].toNat==240)=false by rw[beq_eq_false_iff_ne];omega,show(s[k].toNat==244)=false by rw[beq_eq_false_iff_ne];omega,aeD _ _ (by omega) (by omega) (by omega) (by omega)]
        rfl
       ·have h1:k+1<s.size:=by omega
        refine⟨s[k+1].toNat,by rw[wG s k 1 h1],fun K=>?_⟩
        rw[pz s (k+1) h1]
        simp only[Option.bind_some]
        rw[show decide ((s[k+1].toNat:Int)<160)=decide (s[k+1].toNat<160) by rw[decide_eq_decide];omega,show decide ((159:Int)<(s[k+1].toNat:Int))=decide (159<s[k+1].toNat) by rw[decide_eq_decide];omega,show decide ((s[k+1].toNat:Int)<144)=decide (s[k+1].toNat<144) by rw[decide_eq_decide];omega,show decide ((143:Int)<(s[k+1].toNat:Int))=decide (143<s[k+1].toNat) by rw[decide_eq_decide];omega,aiU]
        rfl
      obtain⟨c,hc,hch⟩:=hodd
      simp only[Bool.not_true,cond_false]
      rw[hch]
      cases ho:sZ s[k].toNat c with
      |true=>exact T.ret (show _=false from he.trans (arI s k n c hlt hu hc ho))
      |false=>exact T.ret ⟨k+n+1,by rw[w64 (x:=(k:Int)+(n:Int)) (by omega) (by omega),w64 (by omega) (by omega)];omega,by omega,by omega,he.trans (avU s k n c hlt hu ht hc ho)⟩
   ·simp only[vJ,Mo.den,au,aj,ak,ay,aA,ahM hlt,cond_false]
    have:k=s.size:=by omega
    refine T.ret (show _=true from he.trans ?_)
    have hn:rest s k=[]:=List.eq_nil_of_length_eq_zero (by rw[zy];omega)
    rw[hn];rfl
  obtain⟨r,h2,h3⟩:=key
  rcases r with v'|r
  ·obtain⟨k',rfl,h4,h5,h6⟩:=h3
   exact .inl ⟨_,h2,⟨k',rfl,h5,h6⟩,by omega⟩
  ·exact .inr ⟨r,h2,h3⟩
 unfold Q1 awy
 simp only[Mo.den,au,aj,ak,ay,aA]
 obtain⟨r,h,hr⟩:=key
 rw[h]
 rcases r with r|r
 ·have hr:_=false:=hr
  rw[hr];rfl
 ·have hr:_=true:=hr
  rw[hr];rfl
theorem aiV(l:List Nat)(k:Nat):mZ (l.take k)≤mZ l:=by
 have h:=Fe (l.take k) (l.drop k)
 rw[List.take_append_drop] at h
 omega
theorem ql{α β:Type}(f:α→β){l:List α}{k:Nat}{x:α}(h:l[k]?=some x):(l.take (k+1)).map f=(l.take k).map f++[f x]:=by
 have hk:=nX h
 rw[List.take_succ_eq_append_getElem hk,List.map_append]
 have:l[k]=x:=by rw[List.getElem?_eq_getElem hk] at h;injection h
 rw[this];rfl
theorem aeE(n:Nat):∀(F:Nat) (v:ah),1≤n→n<F→n≤2000→aP v.lf1≤100000000→(Df F).m1 v (n:Int)=some ((min v.cnt n:Nat):Int):=by
 induction n using Nat.strongRecOn with
 |_ n ih=>
  intro F v h1 hF hn hb
  obtain⟨F,rfl⟩:∃G,F=G+1:=⟨F-1,by omega⟩
  have hpl:=UW v
  have hcp:=IB v
  have key:Tot (al2 (Df F) (n:Int) (parts v) 1 0) (fun r=>r=((min v.cnt n:Nat):Int)):=by
   refine T.nV (parts v).length (by omega) (fun k s=>s.2=(k:Int)∧s.1=((min (1+mZ (((parts v).take k).map ah.cnt)) n:Nat):Int)) _ ⟨rfl,by show(1:Int)=((min (1+0) n:Nat):Int);omega⟩ ?_ ?_
   ·rintro k ⟨a,i⟩ hk ⟨h3,h4⟩
    obtain rfl:i=(k:Int):=h3
    obtain rfl:a=((min (1+mZ (((parts v).take k).map ah.cnt)) n:Nat):Int):=h4
    have hx:=List.getElem?_eq_getElem hk
    have hxb:=xH (gG hx)
    have hsx:mZ (((parts v).take (k+1)).map ah.cnt)=mZ (((parts v).take k).map ah.cnt)+(parts v)[k].cnt:=by
     rw[ql _ hx,Fe];rfl
    have hst:mZ (((parts v).take k).map ah.cnt)≤mZ ((parts v).map ah.cnt):=by
     rw[List.map_take];exact aiV _ _
    unfold Eu
    simp only[Ns,Mo.den,au,aj,ak,ay,aA,ltt hx,gid hx,cond_true,Option.bind_some]
    by_cases hlt:1+mZ (((parts v).take k).map ah.cnt)<n
    ·rw[decide_eq_true (show((min (1+mZ (((parts v).take k).map ah.cnt)) n:Nat):Int)<(n:Int) by omega), w64 (by omega) (by omega), show(n:Int)-((min (1+mZ (((parts v).take k).map ah.cnt)) n:Nat):Int)=((n-(1+mZ (((parts v).take k).map ah.cnt)):Nat):Int) by omega, ih _ (by omega) F _ (by omega) (by omega) (by omega) (by omega)]
     simp only[cond_true,Option.bind_some]
     refine T.ret ⟨inc k (by omega),?_⟩
     show IntKind.wrap .i64 (((min (1+mZ (((parts v).take k).map ah.cnt)) n:Nat):Int)+((min (parts v)[k].cnt (n-(1+mZ (((parts v).take k).map ah.cnt))):Nat):Int))=_
     rw[w64 (by omega) (by omega),hsx];omega
    ·rw[decide_eq_false (show ¬((min (1+mZ (((parts v).take k).map ah.cnt)) n:Nat):Int)<(n:Int) by omega)]
     exact T.ret (show _=_ by rw[hcp];omega)
   ·rintro⟨a,i⟩ ⟨h3,h4⟩
    obtain rfl:i=((parts v).length:Int):=h3
    obtain rfl:a=_:=h4
    unfold Eu
    simp only[Ns,Mo.den,au,aj,ak,ay,aA,ltn,cond_false,Option.bind_some]
    refine T.ret (show _=_ from ?_)
    rw[List.take_length,hcp]
  obtain⟨r,hr,rfl⟩:=key
  simp only[Df,al3,Mo.den,au,aj,ak,ay,aA,UU v hb,Option.bind_some,hr]
theorem avV(a b n:Nat):(if((min b n:Nat):Int) > ((min a n:Nat):Int) then((min b n:Nat):Int) else((min a n:Nat):Int))=((min (max a b) n:Nat):Int):=by
 have h1:min (max a b) n=max (min a n) (min b n):=by
  rcases Nat.le_total a b with h|h<;>rcases Nat.le_total a n with h2|h2<;>rcases Nat.le_total b n with h3|h3<;>simp only[Nat.max_eq_left,Nat.max_eq_right,Nat.min_eq_left,Nat.min_eq_right,h,h2,h3]<;>omega
 rw[h1]
 generalize min a n=x
 generalize min b n=y
 by_cases h:(y:Int) > (x:Int)
 ·rw[if_pos h,Nat.max_eq_right (by omega)]
 ·rw[if_neg h,Nat.max_eq_left (by omega)]
theorem abA(n:Nat):∀(F:Nat) (v:ah),1≤n→n<F→n≤2000→aP v.lf1≤100000000→(Dc F).m1 v (n:Int)=some ((min v.dep n:Nat):Int):=by
 induction n with
 |zero=>intro F v h;omega
 |succ n ih=>
  intro F v h1 hF hn hb
  obtain⟨F,rfl⟩:∃G,F=G+1:=⟨F-1,by omega⟩
  have hpl:=UW v
  have hcp:=IC v
  simp only[Dc,al0,Z9,Mo.den,au,aj,ak,ay,aA,UU v hb,Option.bind_some]
  by_cases h2:n=0
  ·subst h2
   show some (1:Int)=_
   rw[hcp];congr 1;omega
  rw[decide_eq_false (show ¬((n+1:Nat):Int)<2 by omega)]
  simp only[cond_false,Option.bind_some]
  by_cases hp:parts v=[]
  ·rw[hp] at hcp ⊢
   show some (1:Int)=_
   rw[hcp,show min (1+pF (([]:List ah).map ah.dep)) (n+1)=1 by show min (1+0) (n+1)=1;omega];rfl
  have hlp:1≤(parts v).length:=by cases hq:parts v with|nil=>exact absurd hq hp|cons x r=>simp
  rw[show(((parts v).length:Int)==0)=false by rw[beq_eq_false_iff_ne];omega]
  simp only[cond_false]
  have key:Tot (alZ (Dc F) ((n+1:Nat):Int) (parts v) 0 0) (fun r=>r=((min (pF ((parts v).map ah.dep)) n:Nat):Int)):=by
   refine T.nV (parts v).length (by omega) (fun k s=>s.2=(k:Int)∧s.1=((min (pF (((parts v).take k).map ah.dep)) n:Nat):Int)) _ ⟨rfl,by show(0:Int)=((min 0 n:Nat):Int);omega⟩ ?_ ?_
   ·rintro k ⟨a,i⟩ hk ⟨h3,h4⟩
    obtain rfl:i=(k:Int):=h3
    obtain rfl:a=((min (pF (((parts v).take k).map ah.dep)) n:Nat):Int):=h4
    have hx:=List.getElem?_eq_getElem hk
    have hxb:=xH (gG hx)
    have hsx:pF (((parts v).take (k+1)).map ah.dep)=max (pF (((parts v).take k).map ah.dep)) (parts v)[k].dep:=by
     rw[ql _ hx,Oc];show max _ (max (parts v)[k].dep 0)=_;omega
    simp only[Et,Mo.den,au,aj,ak,ay,aA,ltt hx,gid hx,cond_true,Option.bind_some]
    rw[w64 (by omega) (by omega),show((n+1:Nat):Int)-1=(n:Int) by omega,ih F _ (by omega) (by omega) (by omega) (by omega)]
    simp only[Option.bind_some]
    refine T.ret ⟨inc k (by omega),?_⟩
    rw[hsx]
    exact avV _ _ _
   ·rintro⟨a,i⟩ ⟨h3,h4⟩
    obtain rfl:i=((parts v).length:Int):=h3
    obtain rfl:a=_:=h4
    simp only[Et,Mo.den,au,aj,ak,ay,aA,ltn,cond_false]
    refine T.ret (show _=_ from ?_)
    rw[List.take_length]
  obtain⟨r,hr,rfl⟩:=key
  rw[hr]
  simp only[Option.bind_some]
  rw[w64 (by omega) (by omega),hcp]
  congr 1;omega
theorem aeF(v:ah)(hb:aP v.lf1≤100000000):auI v=some ((min v.cnt 1025:Nat):Int):=by
 have h:=aeE 1025 FU v (by omega) (by have:=fJ;omega) (by omega) hb
 have h:Q69 v 1025=_:=h
 simp only[auI,al4,Mo.den,au,aj,ak,ay,aA,h,Option.bind_some]
theorem aeG(v:ah)(hb:aP v.lf1≤100000000):auG v=some ((min v.dep 17:Nat):Int):=by
 have h:=abA 17 FU v (by omega) (by have:=fJ;omega) (by omega) hb
 have h:Q71 v 17=_:=h
 simp only[auG,al1,Mo.den,au,aj,ak,ay,aA,h,Option.bind_some]
end Go.Proofs.YtflpefkohpjjpaaGreatDoor
set_option linter.unusedSimpArgs false
set_option linter.unusedVariables false
namespace Go.Proofs.YtflpefkohpjjpaaGreatDoor
open Go.RowKit
theorem abB(R:oN)(v:ah)(hl:v.aW.length≤100000000)(h1:∀x∈v.aW,R.m1 x.fValue true=some x.fValue.snd):Mo.den (agy R v true)=some (aJ.kD [] v.aW):=by
 unfold agy
 simp only[Mo.den,au,aj,ak,ay,aA]
 have key:Tot (agx R true v 0) (fun r=>match r with|.inl _=>aJ.kD [] v.aW=false|.inr _=>aJ.kD [] v.aW=true):=by
  refine T.nV v.aW.length (by omega) (fun k s=>s=(k:Int)∧aJ.kD [] v.aW=aJ.kD ((v.aW.take k).map aJ.fName).reverse (v.aW.drop k)) _ ⟨rfl,rfl⟩ ?_ ?_
  ·rintro k s hk ⟨rfl,he⟩
   have hx:=List.getElem?_eq_getElem hk
   have hdr:v.aW.drop k=v.aW[k]::v.aW.drop (k+1):=List.drop_eq_getElem_cons hk
   have q1:=h1 v.aW[k] (List.getElem_mem hk)
   have hm:((v.aW.take (k+1)).map aJ.fName).reverse=v.aW[k].fName::((v.aW.take k).map aJ.fName).reverse:=by
    rw[ql _ hx,List.reverse_append];rfl
   have hin:Tot (agw R true v (k:Int) v.aW[k] 0) (fun r=>match r with|.inl _=>hasB v.aW[k].fName ((v.aW.take k).map aJ.fName).reverse=true|.inr _=>hasB v.aW[k].fName ((v.aW.take k).map aJ.fName).reverse=false):=by
    have hB:hasB v.aW[k].fName ((v.aW.take k).map aJ.fName).reverse=((v.aW.take k).map aJ.fName).any (fun q=>decide (v.aW[k].fName=q)):=by unfold hasB;rw[List.any_reverse]
    rw[hB]
    refine T.nV k (by omega) (fun j w=>w=(j:Int)∧∀q∈v.aW.take j,¬q.fName=v.aW[k].fName) _ ⟨rfl,by simp⟩ ?_ ?_
    ·rintro j w hj ⟨rfl,hq⟩
     have hy:=List.getElem?_eq_getElem (show j<v.aW.length by omega)
     simp only[AZ,Mo.den,au,aj,ak,ay,aA,iLt hj,gid hy,cond_true,Option.bind_some]
     by_cases e:v.aW[j].fName=v.aW[k].fName
     ·rw[decide_eq_true e]
      refine T.ret (show _=true from ?_)
      rw[List.any_eq_true]
      exact⟨_,List.mem_map.2 ⟨v.aW[j],List.mem_of_getElem? (by rw[List.getElem?_take_of_lt hj];exact hy),rfl⟩,decide_eq_true e.symm⟩
     ·rw[decide_eq_false e]
      refine T.ret ⟨inc j (by omega),fun q hm=>?_⟩
      rw[List.take_succ_eq_append_getElem (nX hy),List.mem_append] at hm
      rcases hm with hm|hm
      ·exact hq q hm
      ·rw[List.mem_singleton.1 hm];exact e
    ·rintro w ⟨rfl,hq⟩
     simp only[AZ,Mo.den,au,aj,ak,ay,aA,ltn,cond_false]
     refine T.ret (show _=false from ?_)
     rw[List.any_eq_false]
     intro q hm
     obtain⟨y,hy,rfl⟩:=List.mem_map.1 hm
     rw[decide_eq_false fun e=>hq y hy e.symm];exact Bool.false_ne_true
   rw[hdr] at he
   have hf:aJ.kD ((v.aW.take k).map aJ.fName).reverse (v.aW[k]::v.aW.drop (k+1))=((nameB v.aW[k].fName&&!hasB v.aW[k].fName ((v.aW.take k).map aJ.fName).reverse)&&(v.aW[k].fValue.snd&&aJ.kD (v.aW[k].fName::((v.aW.take k).map aJ.fName).reverse) (v.aW.drop (k+1)))):=by
    cases v.aW[k] with|mk n x=>rw[Og];simp only[aJ.fName,aJ.fValue]
   rw[hf,←hm] at he
   obtain⟨r,hin,hr⟩:=hin
   simp only[A8,aav,aaw,SG,Mo.den,au,aj,ak,ay,aA,ltt hx,gid hx,cond_true,Option.bind_some,sD,q1,hin]
   cases a:nameB v.aW[k].fName with
   |false=>rw[a] at he;exact T.ret (show _=false by rw[he];rfl)
   |true=>
    cases c:v.aW[k].fValue.snd with
    |false=>rw[a,c] at he;exact T.ret (show _=false by rw[he];simp)
    |true=>
     rw[a,c] at he
     rcases r with r|r
     ·have hr:_=true:=hr
      rw[hr] at he
      exact T.ret (show _=false by rw[he];rfl)
     ·have hr:_=false:=hr
      rw[hr] at he
      exact T.ret ⟨inc k (by omega),by rw[he];rfl⟩
  ·rintro s ⟨rfl,he⟩
   rw[List.drop_length,U1] at he
   simp only[A8,Mo.den,au,aj,ak,ay,aA,ltn,cond_false]
   exact T.ret he
 obtain⟨r,h,hr⟩:=key
 rw[h]
 rcases r with r|r
 ·have hr:_=false:=hr
  rw[hr];all_goals rfl
 ·have hr:_=true:=hr
  rw[hr];all_goals rfl
theorem aeH(R:oN)(v:ah)(hl:v.aT.length≤100000000)(h1:∀x∈v.aT,R.m1 x true=some x.snd):Tot (al7 R true v 0) (fun r=>match r with|.inl _=>ah.kD v.aT=false|.inr _=>ah.kD v.aT=true):=by
 rw[Oe]
 refine T.nV v.aT.length (by omega) (fun k s=>s=(k:Int)∧(v.aT.take k).all ah.snd=true) _ ⟨rfl,by simp⟩ ?_ ?_
 ·rintro k s hk ⟨rfl,he⟩
  have hx:=List.getElem?_eq_getElem hk
  simp only[EC,Mo.den,au,aj,ak,ay,aA,ltt hx,gid hx,cond_true,Option.bind_some,h1 _ (List.getElem_mem hk)]
  cases c:v.aT[k].snd with
  |false=>exact T.ret (Yi _ hx c)
  |true=>exact T.ret ⟨inc k (by omega),by rw[zn _ hx,he,c];rfl⟩
 ·rintro s ⟨rfl,he⟩
  simp only[EC,Mo.den,au,aj,ak,ay,aA,ltn,cond_false]
  rw[List.take_length] at he
  exact T.ret he
theorem abC:∀(F:Nat) (v:ah),2*aP v.lf1≤F→aP v.lf1≤100000000→(rX F).m1 v true=some v.snd:=by
 intro F
 induction F using Nat.strongRecOn with
 |_ F ih=>
 intro v hF hb
 have hp:=dF v
 have hl:=fH v.aT
 have hd:=fK v.aW
 obtain⟨F,rfl⟩:∃G,F=G+2:=⟨F-2,by omega⟩
 show Mo.den (aqD (rX (F+1)) v true)=_
 have hL:=aeH (rX (F+1)) v (by omega) fun x hx=>ih (F+1) (by omega) x (by have:=gJ hx;omega) (by have:=gJ hx;omega)
 have hD:(rX (F+1)).m2 v true=some (aJ.kD [] v.aW):=abB (rX F) v (by omega) fun x hx=>ih F (by omega) x.fValue (by have:=fE hx;rw[dY] at this;omega) (by have:=fE hx;rw[dY] at this;omega)
 have hU:=anJ v.fText (by omega)
 obtain⟨r0,hL,hr0⟩:=hL
 clear ih hF hb hp hl hd
 rw[aeB]
 unfold aqD
 simp only[agu,agv,aaj,aak,aal,aam,aan,aao,aap,aaq,aar,aas,aat,aau,Mo.den,au,aj,ak,ay,aA,hL,hD,hU]
 clear hL hD hU
 generalize v.aF=k at *
 generalize v.eF=i at *
 generalize v.fText=s at *
 generalize v.aT=l at *
 generalize v.aW=d at *
 unfold Gt KO
 have ei:(i != 0)=!(i==0):=rfl
 have es:∀dd:Decidable (s=(⟨#[]⟩:ByteArray)),@decide _ dd=decide (s.size=0):=fun dd=>by
  by_cases h:s.size=0
  ·rw[decide_eq_true h,decide_eq_true (size_nil (by omega))]
  ·rw[decide_eq_false h,decide_eq_false (Yj (by omega))]
 have el:decide ((0:Int)<(l.length:Int))=!(l.length==0):=by
  cases l with
  |nil=>rfl
  |cons x r=>rw[decide_eq_true (show(0:Int)<((x::r).length:Int) by rw[List.length_cons];omega)];rfl
 have ed:decide ((0:Int)<(d.length:Int))=!(d.length==0):=by
  cases d with
  |nil=>rfl
  |cons x r=>rw[decide_eq_true (show(0:Int)<((x::r).length:Int) by rw[List.length_cons];omega)];rfl
 simp only[ei,es,el,ed]
 have e4:decide ((s.size:Int)≤4096)=decide (s.size≤4096):=by rw[Bool.eq_iff_iff];simp;omega
 have e12:((s.size:Int)==12)=decide (s.size=12):=by rw[Bool.eq_iff_iff];simp;omega
 simp only[e4,e12]
 have hl0:(l.length==0)=true→ah.kD l=true:=fun h=>by
  have:l=[]:=List.eq_nil_of_length_eq_zero (by simpa using h)
  rw[this];unfold ah.kD;rfl
 have hd0:(d.length==0)=true→aJ.kD [] d=true:=fun h=>by
  have:d=[]:=List.eq_nil_of_length_eq_zero (by simpa using h)
  rw[this];unfold aJ.kD;rfl
 clear ei es el ed e4 e12
 generalize ah.kD l=A at *
 generalize aJ.kD [] d=B at *
 generalize (l.length==0)=nl at *
 generalize (d.length==0)=nd at *
 generalize xX s=u at *
 generalize decide (s.size≤4096)=c1 at *
 generalize decide (s.size=12)=c2 at *
 generalize decide (s.size=0)=c3 at *
 have hk:k=1∨k=2∨k=3∨k=4∨k=5∨k=6∨k=7∨k=8∨k=9∨k=10∨k=11∨(k≠1∧k≠2∧k≠3∧k≠4∧k≠5∧k≠6∧k≠7∧k≠8∧k≠9∧k≠10∧k≠11):=by omega
 rcases hk with rfl|rfl|rfl|rfl|rfl|rfl|rfl|rfl|rfl|rfl|rfl|⟨n1,n2,n3,n4,n5,n6,n7,n8,n9,n10,n11⟩
 case inr.inr.inr.inr.inr.inr.inr.inr.inr.inr.inr=>
  have f:∀c:Int,k≠c→(k==c)=false:=fun c h=>by simpa using h
  simp only[bne,f _ n1,f _ n2,f _ n3,f _ n4,f _ n5,f _ n6,f _ n7,f _ n8,f _ n9,f _ n10,f _ n11]
  simp only[n1,n2,n3,n4,n5,n6,n7,n8,n9,n10,n11,or_self,if_false,decide_false]
  rcases(show k<1∨11<k by omega) with h|h
  ·rw[decide_eq_true h];cases nl<;>cases nd<;>cases c3<;>cases (i==0)<;>rfl
  ·rw[decide_eq_true h,decide_eq_false (show ¬k<1 by omega)];cases nl<;>cases nd<;>cases c3<;>cases (i==0)<;>rfl
 all_goals (rcases r0 with r0|r0<;>(have hr0:A=_:=hr0;subst hr0))
 all_goals simp(decide:=true) only[if_true,if_false]
 all_goals (cases nl<;>cases nd<;>cases c3<;>cases (i==0)<;>first|rfl|skip)
 all_goals (first|(cases B<;>first|rfl|(exact absurd (hl0 rfl) (by decide))|(exact absurd (hd0 rfl) (by decide))|skip)|skip)
 all_goals (cases u<;>cases c1<;>cases c2<;>first|rfl|(cases (i==1)<;>rfl)|(cases decide (0≤i)<;>rfl))
theorem aeI(v:ah)(hb:aP v.lf1≤100000000):Q5 v true=some v.snd:=abC FU v (by have:=fJ;omega) hb
theorem lN(v:ah)(hb:aP v.lf1≤100000000):auM v=some (lX v):=by
 simp only[auM,al8,Mo.den,au,aj,ak,ay,aA,aeF v hb,aeG v hb,aeI v hb,Option.bind_some,lX]
 rw[show decide (((min v.cnt 1025:Nat):Int)≤1024)=decide (v.cnt≤1024) by rw[Bool.eq_iff_iff];simp;omega,show decide (((min v.dep 17:Nat):Int)≤16)=decide (v.dep≤16) by rw[Bool.eq_iff_iff];simp;omega]
 cases decide (v.cnt≤1024)<;>cases decide (v.dep≤16)<;>rfl
end Go.Proofs.YtflpefkohpjjpaaGreatDoor
set_option linter.unusedSimpArgs false
set_option linter.unusedVariables false
namespace Go.Proofs.YtflpefkohpjjpaaGreatDoor
open Go.RowKit
def dB{ε:Type}(f:Nat→Option ε):Nat→Nat→Option ε
 |_,0=>none
 |k,n+1=>match f k with|some e=>some e|none=>dB f (k+1) n
def jM{ε:Type}:Option ε→ε⊕Unit
 |some e=>.inl e
 |none=>.inr ()
theorem Fv{ε:Type}{f g:Nat→Option ε}:∀(n k:Nat),(∀i,k≤i→i<k+n→f i=g i)→dB f k n=dB g k n
 |0,_,_=>rfl
 |n+1,k,h=>by
  unfold dB
  rw[h k (Nat.le_refl _) (by omega),Fv n (k+1) fun i h1 h2=>h i (by omega) (by omega)]
theorem abD{ε:Type}{T:Int→Option (Int⊕(ε⊕Unit))}(f:Nat→Option ε)(n:Nat)(hn:n≤1000000000)(h:∀k:Nat,k<n→T (k:Int)=some (match f k with|some e=>.inr (.inl e)|none=>.inl (IntKind.wrap .i64 ((k:Int)+1))))(he:T (n:Int)=some (.inr (.inr ()))):
 ∀m k F,k+m=n→m<F→bV T F (k:Int)=some (jM (dB f k m)):=by
 intro m
 induction m with
 |zero=>
  intro k F hk hF
  obtain⟨F,rfl⟩:∃G,F=G+1:=⟨F-1,by omega⟩
  obtain rfl:k=n:=by omega
  unfold bV
  rw[he];rfl
 |succ m ih=>
  intro k F hk hF
  obtain⟨F,rfl⟩:∃G,F=G+1:=⟨F-1,by omega⟩
  unfold bV dB
  rw[h k (by omega)]
  cases f k with
  |some e=>rfl
  |none=>
   show bV T F (IntKind.wrap .i64 ((k:Int)+1))=_
   rw[inc k (by omega)]
   exact ih (k+1) F (by omega) (by omega)
theorem dX{ε:Type}{T:Int→Option (Int⊕(ε⊕Unit))}(f:Nat→Option ε)(n:Nat)(hn:n≤1000000000)(h:∀k:Nat,k<n→T (k:Int)=some (match f k with|some e=>.inr (.inl e)|none=>.inl (IntKind.wrap .i64 ((k:Int)+1))))(he:T (n:Int)=some (.inr (.inr ()))):
 bV T FU 0=some (jM (dB f 0 n)):=abD f n hn h he n 0 FU (by omega) (by have:=fJ;omega)
def hit(b:Bool):Option Unit:=bif b then some () else none
def aeJ(a b:List ByteArray)(k:Nat):Bool:=decide (a[k]?=b[k]?)
theorem U3(a b:List ByteArray)(hl:a.length=b.length):∀(n k:Nat),k+n=a.length→(dB (fun k=>hit (!aeJ a b k)) k n=none↔a.drop k=b.drop k)
 |0,k,h=>by
  rw[List.drop_eq_nil_of_le (by omega),List.drop_eq_nil_of_le (by omega)]
  exact⟨fun _=>rfl,fun _=>rfl⟩
 |n+1,k,h=>by
  have e1:a.drop k=a[k]::a.drop (k+1):=List.drop_eq_getElem_cons (by omega)
  have e2:b.drop k=b[k]::b.drop (k+1):=List.drop_eq_getElem_cons (by omega)
  have ih:=U3 a b hl n (k+1) (by omega)
  rw[e1,e2]
  unfold dB
  have hk:aeJ a b k=decide (a[k]=b[k]):=by
   unfold aeJ
   rw[List.getElem?_eq_getElem (by omega),List.getElem?_eq_getElem (by omega),decide_eq_decide]
   exact⟨fun e=>by injection e,fun e=>by rw[e]⟩
  rw[hk]
  by_cases h:a[k]=b[k]
  ·rw[decide_eq_true h,h]
   show dB (fun k=>hit (!aeJ a b k)) (k+1) n=none↔_
   rw[ih]
   exact⟨fun h=>by rw[h],fun h=>by injection h⟩
  ·rw[decide_eq_false h]
   constructor
   ·intro h;cases h
   ·intro e;injection e with e;exact absurd e h
theorem ahi{T:Int→Option (Int⊕(Unit⊕Unit))}(a b:List ByteArray)(hl:a.length=b.length)(hn:a.length≤1000000000)(h:∀k:Nat,∀x y:ByteArray,a[k]?=some x→b[k]?=some y→T (k:Int)=some (bif !decide (x=y) then .inr (.inl ()) else .inl (IntKind.wrap .i64 ((k:Int)+1))))(he:T (a.length:Int)=some (.inr (.inr ()))):
 bV T FU 0=some (jM (hit (!decide (a=b)))):=by
 rw[dX (fun k=>hit (!aeJ a b k)) a.length hn (fun k hk=>by
  have ha:=List.getElem?_eq_getElem hk
  have hb:=List.getElem?_eq_getElem (show k<b.length by omega)
  rw[h k _ _ ha hb]
  unfold aeJ
  rw[ha,hb]
  by_cases e:a[k]=b[k]
  ·rw[decide_eq_true e,decide_eq_true (by rw[e])];rfl
  ·rw[decide_eq_false e,decide_eq_false (by intro q;injection q with q;exact e q)];rfl) he]
 have hk:=U3 a b hl a.length 0 (by omega)
 rw[List.drop_zero,List.drop_zero] at hk
 by_cases e:a=b
 ·rw[hk.2 e,decide_eq_true e];rfl
 ·rw[decide_eq_false e]
  cases hf:dB (fun k=>hit (!aeJ a b k)) 0 a.length with
  |none=>exact absurd (hk.1 hf) e
  |some u=>rfl
theorem aeK(a b:List ByteArray)(hn:a.length≤1000000000):Q94 a b=some (decide (a=b)):=by
 unfold Q94 akR
 simp only[Mo.den,au,aj,ak,ay,aA]
 by_cases hl:a.length=b.length
 ·rw[show((a.length:Int) != (b.length:Int))=false by rw[hl];simp]
  simp only[cond_false]
  try unfold atM
  rw[ahi a b hl hn (fun k x y hx hy=>by simp only[yJ,Mo.den,au,aj,ak,ay,aA,ltt hx,gid hx,gid hy,cond_true,Option.bind_some];cases decide (x=y)<;>rfl) (by simp only[yJ,Mo.den,au,aj,ak,ay,aA,ltn,cond_false])]
  cases decide (a=b)<;>rfl
 ·rw[show((a.length:Int) != (b.length:Int))=true by simp;omega,decide_eq_false (fun e=>hl (by rw[e]))];rfl
theorem abE(a b:List ByteArray)(hn:a.length≤1000000000):Q91 a b=some (decide (a=b)):=by
 unfold Q91 asj
 simp only[Mo.den,au,aj,ak,ay,aA]
 by_cases hl:a.length=b.length
 ·rw[show((a.length:Int) != (b.length:Int))=false by rw[hl];simp]
  simp only[cond_false]
  try unfold aen
  rw[ahi a b hl hn (fun k x y hx hy=>by simp only[vY,Mo.den,au,aj,ak,ay,aA,ltt hx,gid hx,gid hy,cond_true,Option.bind_some];cases decide (x=y)<;>rfl) (by simp only[vY,Mo.den,au,aj,ak,ay,aA,ltn,cond_false])]
  cases decide (a=b)<;>rfl
 ·rw[show((a.length:Int) != (b.length:Int))=true by simp;omega,decide_eq_false (fun e=>hl (by rw[e]))];rfl
def qh(l:List aY)(p:List ByteArray)(k:Nat):Option Unit:=dB (fun j=>match l[j]? with|some y=>hit (decide (y.cO=p))|none=>none) 0 k
def Dt(l:List aY)(k:Nat):Option Int:=match l[k]? with|some x=>bif !uf x.cO then some 10 else(match qh l x.cO k with|some _=>some 12|none=>none)|none=>none
noncomputable def J7(l:List aY):Int:=bif decide (8<l.length) then 2 else match dB (Dt l) 0 l.length with|some e=>e|none=>0
theorem abG{l:List aY}{x:aY}(hb:bK (l.map aY.lf)≤100000000)(h:x∈l):x.cO.length≤100000000:=by
 have h1:=dH aY.lf h
 have h2:=kR x
 have h3:=gX x.cO
 have h4:aP (aY.lf x)=aP x.lf1:=rfl
 omega
theorem JE(l:List aY)(hb:bK (l.map aY.lf)≤100000000):Q87 l=some (J7 l):=by
 have hl:=lK l
 unfold Q87 akS J7
 simp only[Mo.den,au,aj,ak,ay,aA]
 by_cases h8:8<l.length
 ·rw[decide_eq_true h8,decide_eq_true (show(8:Int)<(l.length:Int) by omega)];rfl
 rw[decide_eq_false h8,decide_eq_false (show ¬(8:Int)<(l.length:Int) by omega)]
 simp only[cond_false]
 try unfold atO
 rw[dX (Dt l) l.length (by omega) (fun k hk=>by
  have hx:=List.getElem?_eq_getElem hk
  have hm:=gG hx
  have hg:(0:Int)≤0∧(0:Int)≤(k:Int)∧(k:Int)≤(l.length:Int):=by omega
  have hin:ac2 l (k:Int) l[k] 0=some (jM (qh l l[k].cO k)):=by
   unfold ac2 qh
   have hn:(l.take (k:Int).toNat).length=k:=by rw[List.length_take,Int.toNat_natCast];omega
   refine dX _ k (by omega) (fun j hj=>?_) ?_
   ·have hy:=List.getElem?_eq_getElem (show j<l.length by omega)
    have hy2:(l.take (k:Int).toNat)[j]?=some l[j]:=by rw[Int.toNat_natCast,List.getElem?_take_of_lt hj];exact hy
    simp only[yK,Mo.den,au,aj,ak,ay,aA,hn,iLt hj,gid hy2,cond_true,Option.bind_some,aeK _ _ (Nat.le_trans (abG hb (gG hy)) (by omega)),hy]
    cases decide (l[j].cO=l[k].cO)<;>rfl
   ·simp only[yK,Mo.den,au,aj,ak,ay,aA,hn,ltn,cond_false]
  simp only[yL,Mo.den,au,aj,ak,ay,aA,ltt hx,gid hx,cond_true,Option.bind_some,l9,if_pos hg,hin,Dt,hx]
  cases uf l[k].cO with
  |false=>rfl
  |true=>cases qh l l[k].cO k<;>rfl) (by simp only[yL,Mo.den,au,aj,ak,ay,aA,ltn,cond_false])]
 cases dB (Dt l) 0 l.length<;>rfl
theorem Yn(l:List aY)(hb:bK (l.map aY.lf)≤100000000):Q63 l=some (J7 l):=by
 have hl:=lK l
 unfold Q63 asl J7
 simp only[Mo.den,au,aj,ak,ay,aA]
 by_cases h8:8<l.length
 ·rw[decide_eq_true h8,decide_eq_true (show(8:Int)<(l.length:Int) by omega)];rfl
 rw[decide_eq_false h8,decide_eq_false (show ¬(8:Int)<(l.length:Int) by omega)]
 simp only[cond_false]
 try unfold avk
 rw[dX (Dt l) l.length (by omega) (fun k hk=>by
  have hx:=List.getElem?_eq_getElem hk
  have hm:=gG hx
  have hin:aeo l (k:Int) 0=some (jM (qh l l[k].cO k)):=by
   unfold aeo qh
   refine dX _ k (by omega) (fun j hj=>?_) ?_
   ·have hy:=List.getElem?_eq_getElem (show j<l.length by omega)
    have es:decide (l[k].cO=l[j].cO)=decide (l[j].cO=l[k].cO):=by rw[decide_eq_decide];exact⟨Eq.symm,Eq.symm⟩
    simp only[EM,Mo.den,au,aj,ak,ay,aA,iLt hj,gid hx,gid hy,cond_true,Option.bind_some,abE _ _ (Nat.le_trans (abG hb hm) (by omega)),hy,es]
    cases decide (l[j].cO=l[k].cO)<;>rfl
   ·simp only[EM,Mo.den,au,aj,ak,ay,aA,ltn,cond_false]
  simp only[EN,Mo.den,au,aj,ak,ay,aA,ltt hx,gid hx,cond_true,Option.bind_some,Fb,hin,Dt,hx]
  cases uf l[k].cO with
  |false=>rfl
  |true=>cases qh l l[k].cO k<;>rfl) (by simp only[EN,Mo.den,au,aj,ak,ay,aA,ltn,cond_false])]
 cases dB (Dt l) 0 l.length<;>rfl
end Go.Proofs.YtflpefkohpjjpaaGreatDoor
set_option linter.unusedSimpArgs false
set_option linter.unusedVariables false
namespace Go.Proofs.YtflpefkohpjjpaaGreatDoor
open Go.RowKit
theorem aiW(v:ah):apH v=some (iW v):=by
 simp only[apH,adb,dQ,mX,mW,oZ,oW,Mo.den,au,aj,ak,ay,aA,iW]
 cases v.aF==0<;>cases v.eF==0<;>cases decide (v.fText=⟨#[]⟩)<;>cases (v.aT.length:Int)==0<;>rfl
theorem IL(v:ah):apB v=some (iW v):=by
 simp only[apB,ac7,dQ,mX,mW,oZ,oW,Mo.den,au,aj,ak,ay,aA,iW]
 cases v.aF==0<;>cases v.eF==0<;>cases decide (v.fText=⟨#[]⟩)<;>cases (v.aT.length:Int)==0<;>rfl
theorem ahj(v:ah):apP v=some (iW v):=by
 simp only[apP,adn,dQ,mX,mW,oZ,oW,Mo.den,au,aj,ak,ay,aA,iW]
 cases v.aF==0<;>cases v.eF==0<;>cases decide (v.fText=⟨#[]⟩)<;>cases (v.aT.length:Int)==0<;>rfl
theorem Fz(v:ah):Q0 v=some (iW v):=by
 simp only[Q0,apb,dQ,mX,mW,oZ,oW,Mo.den,au,aj,ak,ay,aA,iW]
 cases v.aF==0<;>cases v.eF==0<;>cases decide (v.fText=⟨#[]⟩)<;>cases (v.aT.length:Int)==0<;>rfl
theorem len0{α:Type}{l:List α}(h:((l.length:Int)==0)=true):l=[]:=by
 have h:(l.length:Int)=0:=eq_of_beq h
 exact List.eq_nil_of_length_eq_zero (by omega)
theorem J8:∃G,FU=G+1:=⟨FU-1,by have:=fJ;omega⟩
theorem oJ{ε:Type}{T:Int→Option (Int⊕(ε⊕Unit))}(he:T 0=some (.inr (.inr ()))):bV T FU 0=some (.inr ()):=dX (fun _=>none) 0 (by omega) (fun k hk=>by omega) he
theorem xM(v:ah):Q23 v (ah.mk 0 0 ⟨#[]⟩ [] [])=some (iW v):=by
 unfold Q23
 obtain⟨G,hG⟩:=J8
 rw[hG]
 show Mo.den (ag2 (Dj G) v (ah.mk 0 0 ⟨#[]⟩ [] []))=_
 unfold ag2 aaR aaS TN TP iW
 simp only[Mo.den,au,aj,ak,ay,aA]
 have e1:(v.aF != (ah.mk 0 0 ⟨#[]⟩ [] []).aF)=!(v.aF==0):=rfl
 have e2:(v.eF != (ah.mk 0 0 ⟨#[]⟩ [] []).eF)=!(v.eF==0):=rfl
 have e3:((v.aT.length:Int) != ((ah.mk 0 0 ⟨#[]⟩ [] []).aT.length:Int))=!((v.aT.length:Int)==0):=rfl
 have e4:((v.aW.length:Int) != ((ah.mk 0 0 ⟨#[]⟩ [] []).aW.length:Int))=!((v.aW.length:Int)==0):=rfl
 have e5:decide (v.fText=(ah.mk 0 0 ⟨#[]⟩ [] []).fText)=decide (v.fText=⟨#[]⟩):=rfl
 rw[e1,e2,e3,e4,e5]
 cases h1:v.aF==0<;>cases h2:v.eF==0<;>cases h3:decide (v.fText=⟨#[]⟩)<;>cases h4:(v.aT.length:Int)==0<;>cases h5:(v.aW.length:Int)==0<;>first|rfl|skip
 have a1:=len0 h4
 have a2:=len0 h5
 have l1:ag0 (Dj G) v (ah.mk 0 0 ⟨#[]⟩ [] []) 0=some (.inr ()):=oJ (by simp only[Ip,Mo.den,au,aj,ak,ay,aA,a1];rfl)
 have l2:ag1 (Dj G) v (ah.mk 0 0 ⟨#[]⟩ [] []) 0=some (.inr ()):=oJ (by simp only[Iq,Mo.den,au,aj,ak,ay,aA,a2];rfl)
 simp only[Bool.not_true,cond_false,Option.bind_some,l1,l2];rfl
theorem Jb{ε:Type}{f:Nat→Option ε}:∀n k,dB f k n=none↔∀i,k≤i→i<k+n→f i=none
 |0,k=>⟨fun _ i h1 h2=>by omega,fun _=>rfl⟩
 |n+1,k=>by
  have ih:=Jb (f:=f) n (k+1)
  unfold dB
  cases hf:f k with
  |some e=>exact⟨fun h=>(by cases h),fun h=>(by rw[h k (Nat.le_refl _) (by omega)] at hf;cases hf)⟩
  |none=>
   show dB f (k+1) n=none↔_
   rw[ih]
   refine⟨fun h i h1 h2=>?_,fun h i h1 h2=>h i (by omega) (by omega)⟩
   rcases Nat.eq_or_lt_of_le h1 with rfl|h3
   ·exact hf
   ·exact h i h3 (by omega)
theorem anK{o:Option Unit}{b:Bool}(h:o=none↔b=false):o=hit b:=by
 cases b with
 |false=>exact h.2 rfl
 |true=>cases o with|none=>exact absurd (h.1 rfl) (by decide)|some u=>rfl
def again(l:List ByteArray)(x:ByteArray)(k:Nat):Option Unit:=dB (fun j=>match l[j]? with|some y=>hit (decide (y=x))|none=>none) 0 k
theorem anL(l:List ByteArray)(x:ByteArray)(k:Nat)(hk:k≤l.length):again l x k=hit (hasB x (l.take k).reverse):=by
 refine anK ?_
 unfold again hasB
 rw[Jb,List.any_reverse,List.any_eq_false]
 constructor
 ·intro h y hy
  obtain⟨i,hi⟩:=List.mem_iff_getElem?.1 hy
  have hi2:i<k:=by have:=nX hi;rw[List.length_take] at this;omega
  have hy2:l[i]?=some y:=by rw[List.getElem?_take_of_lt hi2] at hi;exact hi
  have h:=h i (Nat.zero_le _) (by omega)
  simp only[hy2] at h
  intro e
  have e:=of_decide_eq_true e
  rw[decide_eq_true e.symm] at h;cases h
 ·intro h i _ hi
  have hy:=List.getElem?_eq_getElem (show i<l.length by omega)
  simp only[hy]
  have hm:l[i]∈l.take k:=List.mem_of_getElem? (i:=i) (by rw[List.getElem?_take_of_lt (show i<k by omega)];exact hy)
  have:=h _ hm
  rw[decide_eq_false (fun e=>this (decide_eq_true e.symm))];rfl
def Om(l:List ByteArray)(k:Nat):Option Unit:=match l[k]? with|some x=>bif !nameB x then some () else again l x k|none=>none
def nT:List ByteArray→List ByteArray→Bool
 |_,[]=>true
 |seen,n::r=>(nameB n&&!hasB n seen)&&nT (n::seen) r
theorem Yo(l:List ByteArray):∀(n k:Nat),k+n=l.length→dB (Om l) k n=hit (!nT (l.take k).reverse (l.drop k))
 |0,k,h=>by rw[List.drop_eq_nil_of_le (by omega)];rfl
 |n+1,k,h=>by
  have hk:k<l.length:=by omega
  have hx:=List.getElem?_eq_getElem hk
  have hd:l.drop k=l[k]::l.drop (k+1):=List.drop_eq_getElem_cons hk
  have ht:(l.take (k+1)).reverse=l[k]::(l.take k).reverse:=by rw[List.take_succ_eq_append_getElem hk,List.reverse_append];rfl
  have ih:=Yo l n (k+1) (by omega)
  rw[ht] at ih
  unfold dB
  rw[hd,show Om l k=bif !nameB l[k] then some () else again l l[k] k by unfold Om;rw[hx],anL l _ k (by omega)]
  show _=hit (!((nameB l[k]&&!hasB l[k] (l.take k).reverse)&&nT (l[k]::(l.take k).reverse) (l.drop (k+1))))
  cases nameB l[k] with
  |false=>rfl
  |true=>
   cases hasB l[k] (l.take k).reverse with
   |true=>rfl
   |false=>exact ih
theorem aiX(l:List ByteArray)(hl:l.length≤100000000):Q45 l=some (nT [] l):=by
 unfold Q45 asq
 simp only[Mo.den,au,aj,ak,ay,aA]
 try unfold avu
 rw[dX (Om l) l.length (by omega) (fun k hk=>by
  have hx:=List.getElem?_eq_getElem hk
  have hin:Io l (k:Int) 0=some (jM (again l l[k] k)):=by
   unfold Io again
   refine dX _ k (by omega) (fun j hj=>?_) ?_
   ·have hy:=List.getElem?_eq_getElem (show j<l.length by omega)
    simp only[rZ,Mo.den,au,aj,ak,ay,aA,iLt hj,gid hx,gid hy,cond_true,Option.bind_some,hy]
    cases decide (l[j]=l[k])<;>rfl
   ·simp only[rZ,Mo.den,au,aj,ak,ay,aA,ltn,cond_false]
  simp only[ER,Mo.den,au,aj,ak,ay,aA,ltt hx,gid hx,cond_true,Option.bind_some,sD,hin,Om,hx]
  cases nameB l[k] with
  |false=>rfl
  |true=>cases again l l[k] k<;>rfl) (by simp only[ER,Mo.den,au,aj,ak,ay,aA,ltn,cond_false])]
 rw[Yo l l.length 0 (by omega)]
 simp only[List.take_zero,List.reverse_nil,List.drop_zero]
 cases nT [] l<;>rfl
theorem Cb(l:List ByteArray)(hl:l.length≤100000000):Q86 l=some (nT [] l):=by
 unfold Q86 asv
 simp only[Mo.den,au,aj,ak,ay,aA]
 try unfold avH
 rw[dX (Om l) l.length (by omega) (fun k hk=>by
  have hx:=List.getElem?_eq_getElem hk
  have hin:Io l (k:Int) 0=some (jM (again l l[k] k)):=by
   unfold Io again
   refine dX _ k (by omega) (fun j hj=>?_) ?_
   ·have hy:=List.getElem?_eq_getElem (show j<l.length by omega)
    simp only[rZ,Mo.den,au,aj,ak,ay,aA,iLt hj,gid hx,gid hy,cond_true,Option.bind_some,hy]
    cases decide (l[j]=l[k])<;>rfl
   ·simp only[rZ,Mo.den,au,aj,ak,ay,aA,ltn,cond_false]
  simp only[ET,Mo.den,au,aj,ak,ay,aA,ltt hx,gid hx,cond_true,Option.bind_some,sD,hin,Om,hx]
  cases nameB l[k] with
  |false=>rfl
  |true=>cases again l l[k] k<;>rfl) (by simp only[ET,Mo.den,au,aj,ak,ay,aA,ltn,cond_false])]
 rw[Yo l l.length 0 (by omega)]
 simp only[List.take_zero,List.reverse_nil,List.drop_zero]
 cases nT [] l<;>rfl
theorem Oo(s:ByteArray):apG s=some (nameB s):=by
 simp only[apG,ada,Mo.den,au,aj,ak,ay,aA,l9,Option.bind_some,uf,List.length_cons,List.length_nil,List.all_cons,List.all_nil,Bool.and_true];rfl
theorem IQ{Lo:Int×List (ByteArray×Bool)→Option ((Int×List (ByteArray×Bool))⊕(Unit⊕Unit))}(l:List ByteArray)(hl:l.length≤100000000)
 (h:∀(k:Nat) (x:ByteArray) (m:List ByteArray),l[k]?=some x→m.length≤k→Lo ((k:Int),qc m)=some (bif nameB x&&!hasB x m then .inl (IntKind.wrap .i64 ((k:Int)+1),qc (x::m)) else .inr (.inl ())))
 (he:∀m,Lo ((l.length:Int),m)=some (.inr (.inr ()))):bV Lo FU (0,[])=some (bif nT [] l then .inr () else .inl ()):=by
 have key:Tot (bV Lo FU (0,[])) (fun r=>r=bif nT [] l then .inr () else .inl ()):=by
  refine T.nV l.length (by omega) (fun k s=>∃m:List ByteArray,m.length=k∧s=((k:Int),qc m)∧nT [] l=nT m (l.drop k)) _ ⟨[],rfl,rfl,rfl⟩ ?_ ?_
  ·rintro k s hk ⟨m,hm,rfl,hd⟩
   have hx:=List.getElem?_eq_getElem hk
   have hdr:l.drop k=l[k]::l.drop (k+1):=List.drop_eq_getElem_cons hk
   rw[hdr] at hd
   have hd:nT [] l=((nameB l[k]&&!hasB l[k] m)&&nT (l[k]::m) (l.drop (k+1))):=hd
   rw[h k l[k] m hx (by omega)]
   cases hb:nameB l[k]&&!hasB l[k] m with
   |false=>rw[hb] at hd;exact T.ret (show _=_ by rw[hd];rfl)
   |true=>rw[hb] at hd;exact T.ret ⟨l[k]::m,by simp[hm],by rw[inc k (by omega)],by rw[hd];rfl⟩
  ·rintro s ⟨m,hm,rfl,hd⟩
   rw[List.drop_length] at hd
   rw[he]
   exact T.ret (show _=_ by rw[hd];rfl)
 obtain⟨r,hr,rfl⟩:=key
 exact hr
theorem Yp(l:List ByteArray)(hl:l.length≤100000000):Q75 l=some (nT [] l):=by
 unfold Q75 akY
 simp only[Mo.den,au,aj,ak,ay,aA]
 try unfold atW
 rw[IQ l hl (fun k x m hx hm=>by
  have hlt:=nX hx
  have hg:(qc m).length<maxLen:=by rw[qc,List.length_map];unfold maxLen;omega
  unfold yO
  simp only[LV,Mo.den,au,aj,ak,ay,aA,ltt hx,gid hx,cond_true,Option.bind_some,Oo,wB,if_pos hg]
  cases nameB x<;>cases hasB x m<;>rfl) (fun m=>by unfold yO;simp only[Mo.den,au,aj,ak,ay,aA,ltn,cond_false])]
 cases nT [] l<;>rfl
end Go.Proofs.YtflpefkohpjjpaaGreatDoor
set_option linter.unusedSimpArgs false
set_option linter.unusedVariables false
namespace Go.Proofs.YtflpefkohpjjpaaGreatDoor
open Go.RowKit
theorem dD{α:Type}(b:Bool)(x y:α):(bif b then some x else some y)=some (bif b then x else y):=by cases b<;>rfl
theorem ge1(n:Nat):decide ((1:Int)≤(n:Int))=!((n:Int)==0):=by
 cases n with
 |zero=>rfl
 |succ n=>rw[decide_eq_true (by omega),show(((n+1:Nat):Int)==0)=false by rw[beq_eq_false_iff_ne];omega];rfl
theorem gt0(n:Nat):decide ((0:Int)<(n:Int))=!((n:Int)==0):=by
 rw[←ge1];rw[decide_eq_decide];omega
noncomputable def Oq(op:Int)(b0 b1 b2 b3 bm pv p0 nv dn vv mz ne n0 en:Bool):Int:=
 bif decide (op<1)||decide (37<op) then 11 else
 let k:=if op=1∨op=2∨op=3 then b0 else if op=18∨op=22∨op=23∨op=24∨op=26∨op=30∨op=31∨op=36 then b1 else if op=19∨op=25 then b3 else if op=4∨op=6∨op=16∨op=17∨op=21∨op=29∨op=37∨op=35 then true else if op=34 then !b0&&bm else b2
 let up:=decide (op=2)||decide (op=3)
 let un:=decide (op=3)||decide (op=32)||decide (op=33)
 bif !k then 11 else bif up&&!pv&&(decide (op=2)||!p0) then 10 else bif (un&&!nv)||(decide (op=34)&&!dn) then 9 else bif decide (op=1)&&!vv then 8
 else bif (!up&&!p0)||(!un&&!ne)||(!decide (op=34)&&!n0)||(!decide (op=1)&&!mz)||en then 4 else 0
theorem asB(op:Int)(h1:1≤op)(h2:op≤37):op=1∨op=2∨op=3∨op=4∨op=5∨op=6∨op=7∨op=8∨op=9∨op=10∨op=11∨op=12∨op=13∨op=14∨op=15∨op=16∨op=17∨op=18∨op=19∨op=20∨op=21∨op=22∨op=23∨op=24∨op=25∨op=26∨op=27∨op=28∨op=29∨op=30∨op=31∨op=32∨op=33∨op=34∨op=35∨op=36∨op=37:=by omega
noncomputable def Cc(e:aQ):Int:=Oq e.fOp ((e.bC.length:Int)==0) ((e.bC.length:Int)==1) ((e.bC.length:Int)==2) ((e.bC.length:Int)==3) ((e.bC.length:Int)==(e.eu.length:Int)) (uf e.cO) ((e.cO.length:Int)==0) (nameB e.fName) (nT [] e.eu) (lX e.fArg) (iW e.fArg) (decide (e.fName=⟨#[]⟩)) ((e.eu.length:Int)==0) (e.fN != 0)
theorem Yq(e:aQ)(hb:aP e.lf1≤100000000):Q21 e=some (Cc e):=by
 have hp:=jA e
 have hn:=gX e.eu
 unfold Cc
 simp only[Q21,akZ,RZ,RY,RX,RV,RU,RS,RQ,RP,RN,RJ,RI,RH,ZR,ZQ,Mo.den,au,aj,ak,ay,aA,Q82,akW,RF,RD,Rz,Em,Ej,Mo.den,au,aj,ak,ay,aA,apE,ac9,RG,Mo.den,au,aj,ak,ay,aA,l9,Oo,Yp e.eu (by omega),kF e.fArg (by omega),aiW,Option.bind_some,dD,gt0,ge1,bne]
 clear hp hn hb
 generalize e.fOp=op
 generalize ((e.bC.length:Int)==0)=b0
 generalize ((e.bC.length:Int)==1)=b1
 generalize ((e.bC.length:Int)==2)=b2
 generalize ((e.bC.length:Int)==3)=b3
 generalize ((e.bC.length:Int)==(e.eu.length:Int))=bm
 generalize uf e.cO=pv
 generalize ((e.cO.length:Int)==0)=p0
 generalize nameB e.fName=nv
 generalize nT [] e.eu=dn
 generalize lX e.fArg=vv
 generalize iW e.fArg=mz
 generalize decide (e.fName=⟨#[]⟩)=ne
 generalize ((e.eu.length:Int)==0)=n0
 generalize (e.fN==0)=en
 clear e
 by_cases h1:op<1
 ·unfold Oq;rw[decide_eq_true h1];rfl
 by_cases h2:37<op
 ·unfold Oq;rw[decide_eq_true h2,decide_eq_false h1];rfl
 rcases asB op (by omega) (by omega) with rfl|rfl|rfl|rfl|rfl|rfl|rfl|rfl|rfl|rfl|rfl|rfl|rfl|rfl|rfl|rfl|rfl|rfl|rfl|rfl|rfl|rfl|rfl|rfl|rfl|rfl|rfl|rfl|rfl|rfl|rfl|rfl|rfl|rfl|rfl|rfl|rfl
 all_goals simp(decide:=true) only[Oq,Int.reduceBEq,Int.reduceLT,Int.reduceLE,Int.reduceNeg,Int.reduceEq,decide_true,decide_false,cond_true,cond_false,if_true,if_false,Bool.not_true,Bool.not_false,Bool.false_or,Bool.true_or,Bool.or_false,Bool.or_true,Bool.and_true,Bool.true_and,Bool.false_and,Bool.and_false]
 all_goals first|rfl|skip
 all_goals first|clear b0|(cases b0<;>first|rfl|skip)
 all_goals first|clear b1|(cases b1<;>first|rfl|skip)
 all_goals first|clear b2|(cases b2<;>first|rfl|skip)
 all_goals first|clear b3|(cases b3<;>first|rfl|skip)
 all_goals first|clear bm|(cases bm<;>first|rfl|skip)
 all_goals first|clear pv|(cases pv<;>first|rfl|skip)
 all_goals first|clear p0|(cases p0<;>first|rfl|skip)
 all_goals first|clear nv|(cases nv<;>first|rfl|skip)
 all_goals first|clear dn|(cases dn<;>first|rfl|skip)
 all_goals first|clear vv|(cases vv<;>first|rfl|skip)
 all_goals first|clear ne|(cases ne<;>first|rfl|skip)
 all_goals first|clear n0|(cases n0<;>first|rfl|skip)
 all_goals first|clear mz|(cases mz<;>first|rfl|skip)
 all_goals first|clear en|(cases en<;>first|rfl|skip)
theorem Py(e:aQ)(hb:aP e.lf1≤100000000):Q10 e=some (Cc e):=by
 have hp:=jA e
 have hn:=gX e.eu
 unfold Cc
 simp only[Q10,asr,Uf,Ue,Ud,Uc,Ub,Ua,TY,TW,TV,TU,TS,TR,TQ,aaU,aaT,Mo.den,au,aj,ak,ay,aA,awR,ani,NY,NW,Em,Ej,Mo.den,au,aj,ak,ay,aA,Fb,sD,aiX e.eu (by omega),lN e.fArg (by omega),xM,Option.bind_some,dD,gt0,ge1,bne]
 clear hp hn hb
 generalize e.fOp=op
 generalize (e.bC.length:Int)=kn
 generalize (e.eu.length:Int)=nn
 generalize uf e.cO=pv
 generalize ((e.cO.length:Int)==0)=p0
 generalize nameB e.fName=nv
 generalize nT [] e.eu=dn
 generalize lX e.fArg=vv
 generalize iW e.fArg=mz
 generalize decide (e.fName=⟨#[]⟩)=ne
 generalize (e.fN==0)=en
 clear e
 by_cases h1:op<1
 ·unfold Oq;rw[decide_eq_true h1];rfl
 by_cases h2:37<op
 ·unfold Oq;rw[decide_eq_true h2,decide_eq_false h1];rfl
 rcases asB op (by omega) (by omega) with rfl|rfl|rfl|rfl|rfl|rfl|rfl|rfl|rfl|rfl|rfl|rfl|rfl|rfl|rfl|rfl|rfl|rfl|rfl|rfl|rfl|rfl|rfl|rfl|rfl|rfl|rfl|rfl|rfl|rfl|rfl|rfl|rfl|rfl|rfl|rfl|rfl
 all_goals simp(decide:=true) only[Oq,Int.reduceBEq,Int.reduceLT,Int.reduceLE,Int.reduceNeg,Int.reduceEq,decide_true,decide_false,cond_true,cond_false,if_true,if_false,Bool.not_true,Bool.not_false,Bool.false_or,Bool.true_or,Bool.or_false,Bool.or_true,Bool.and_true,Bool.true_and,Bool.false_and,Bool.and_false]
 all_goals first|rfl|skip
 all_goals generalize (kn==0)=b0
 all_goals generalize (kn==1)=b1
 all_goals generalize (kn==2)=b2
 all_goals generalize (kn==3)=b3
 all_goals generalize (kn==nn)=bm
 all_goals generalize (nn==0)=n0
 all_goals first|clear b0|(cases b0<;>first|rfl|skip)
 all_goals first|clear b1|(cases b1<;>first|rfl|skip)
 all_goals first|clear b2|(cases b2<;>first|rfl|skip)
 all_goals first|clear b3|(cases b3<;>first|rfl|skip)
 all_goals first|clear bm|(cases bm<;>first|rfl|skip)
 all_goals first|clear pv|(cases pv<;>first|rfl|skip)
 all_goals first|clear p0|(cases p0<;>first|rfl|skip)
 all_goals first|clear nv|(cases nv<;>first|rfl|skip)
 all_goals first|clear dn|(cases dn<;>first|rfl|skip)
 all_goals first|clear vv|(cases vv<;>first|rfl|skip)
 all_goals first|clear ne|(cases ne<;>first|rfl|skip)
 all_goals first|clear n0|(cases n0<;>first|rfl|skip)
 all_goals first|clear mz|(cases mz<;>first|rfl|skip)
 all_goals first|clear en|(cases en<;>first|rfl|skip)
end Go.Proofs.YtflpefkohpjjpaaGreatDoor
