/- Printed by dec.py. -/
import Derived.Test.YtflpefkohpjjpaaGreatDoorQP6
import Derived.Test.YtflpefkohpjjpaaGreatDoorQP4
import Derived.Test.YtflpefkohpjjpaaGreatDoorQPName
import Derived.Test.YtflpefkohpjjpaaGreatDoorQP3
import Derived.Test.YtflpefkohpjjpaaGreatDoorQPNumP
import Derived.Test.YtflpefkohpjjpaaGreatDoorQPR1b
set_option linter.unusedSimpArgs false
set_option linter.unusedVariables false
namespace Go.Proofs.YtflpefkohpjjpaaGreatDoor
open Go.RowKit
set_option maxRecDepth 20000
set_option maxHeartbeats 4000000
noncomputable section
def Zc(p_p:aO)(r0:Bool):Mo (Bool):=
 .aC 4009 (r0) [1,2,17] 1 (VB p_p.fArg (ah.mk 0 0 ⟨#[]⟩ [] []))
def QN(p_p:aO)(r0:Bool):Mo (Bool):=
 .iG 4015 (r0) (.nu p_p.fArgs ah.lf<|
 .rt [1,2,23] 1 ((p_p.fArgs.length:Int)==0))<|
 .rt [1,2,23] 1 (false)
def QO(p_p:aO)(r0:Bool):Mo (Bool):=
 .aV 4021 (r0) [1,2,28] 1 (p_p.fN==0)
def QS(p_p:aO)(r0:Bool):Mo (Bool):=
 .aV 4026 (r0) [1,2,33] 1 (p_p.fM==0)
def QT(p_p:aO)(r0:Bool):Mo (Bool):=
 .aV 4031 (r0) [1,2,39] 1 (p_p.dY.aF==0)
def QU(p_p:aO)(r0:Bool):Mo (Bool):=
 .iG 4037 (r0) (.nu p_p.dY.bF cu.lf<|
 .rt [1,2,46] 1 ((p_p.dY.bF.length:Int)==0))<|
 .rt [1,2,46] 1 (false)
def QV(p_p:aO)(r0:Bool):Mo (Bool):=
 .aV 4044 (r0) [1,2,52] 1 (p_p.dY.fR==0)
def QW(p_p:aO)(r0:Bool):Mo (Bool):=
 .aC 4050 (r0) [1,2,58] 1 (atw p_p.fExpr aP.z)
def QX(p_p:aO)(r0:Bool):Mo (Bool):=
 .iG 4056 (r0) (.nu p_p.bC aO.lf<|
 .ret ⟨[.kill 0],[2,64],[],1⟩ ((p_p.bC.length:Int)==0))<|
 .ret ⟨[.kill 0],[2,64],[],1⟩ (false)
def apZ(p_p:aO):Mo (Bool):=
 .sf Tryz.f130 0 [1,0] 0 9 1 [(1,.ptr 0 0),(2,.b_ false)] [dw p_p] 11 (tC p_p) fun r0=>
 .sb Tryz.f130 0 [1,0] 9 6 1 [(1,.ptr 0 0),(2,.b_ false)] [dw p_p] 11 17 r0 (Zc p_p r0) fun r1=>
 .sb Tryz.f130 0 [1,0] 15 6 1 [(1,.ptr 0 0),(2,.b_ false)] [dw p_p] 17 23 r1 (QN p_p r1) fun r2=>
 .sb Tryz.f130 0 [1,0] 21 5 1 [(1,.ptr 0 0),(2,.b_ false)] [dw p_p] 23 28 r2 (QO p_p r2) fun r3=>
 .sb Tryz.f130 0 [1,0] 26 5 1 [(1,.ptr 0 0),(2,.b_ false)] [dw p_p] 28 33 r3 (QS p_p r3) fun r4=>
 .sb Tryz.f130 0 [1,0] 31 6 1 [(1,.ptr 0 0),(2,.b_ false)] [dw p_p] 33 39 r4 (QT p_p r4) fun r5=>
 .sb Tryz.f130 0 [1,0] 37 7 1 [(1,.ptr 0 0),(2,.b_ false)] [dw p_p] 39 46 r5 (QU p_p r5) fun r6=>
 .sb Tryz.f130 0 [1,0] 44 6 1 [(1,.ptr 0 0),(2,.b_ false)] [dw p_p] 46 52 r6 (QV p_p r6) fun r7=>
 .sb Tryz.f130 0 [1,0] 50 6 1 [(1,.ptr 0 0),(2,.b_ false)] [dw p_p] 52 58 r7 (QW p_p r7) fun r8=>
 .sk Tryz.f130 0 [1,0] 56 6 1 (fun r_=>⟨[(2,.b_ false),(64,.b_ r_)],[.dead]⟩) ⟨[(1,.ptr 0 0),(2,.b_ false),(58,.b_ r8)],[dw p_p]⟩ (QX p_p r8) fun r9=>
 .sk Tryz.f130 0 [1,0] 62 1 1 (fun r_=>⟨[(2,.b_ r9)],[.dead]⟩) ⟨[(2,.b_ false),(64,.b_ r9)],[.dead]⟩ (dR r9) fun r10=>
 .ret (aS 1) (r9)
def Q29(p_p:aO):Option (Bool):=Mo.den (apZ p_p)
theorem atx(p_p:aO):FV (Q29 p_p) 130 [.dat (aO.lf1 p_p)] .b_:=dA Tryz.func130
def QY(p_x:aQ):Mo (Bool):=
 .oV 8003 (decide ((p_x.aF:Int)<1)) [1,15] 1 (decide ((3:Int)<p_x.aF))
def QZ(p_x:aQ):Mo (Bool):=
 .nu p_x.gq bn.lf<|
 .iG 18004 ((p_x.gq.length:Int)==0) (.rt [1,47] 1 (true))<|
 .iG 18008 (p_x.aF != 1) (.nu p_x.gq bn.lf<|
 .iG 18013 (decide ((1:Int)<(p_x.gq.length:Int))) (.rt [1,47] 1 (true))<|
 .gx bn.bf p_x.gq 0 fun x0 _=>
 .oV 18020 (x0.NI) [1,47] 1 (p_x.gB))<|
 .rt [1,47] 1 (false)
def alg(p_x:aQ):Mo (Int):=
 .cl (AX p_x.fName) fun r0 _=>
 .iB (!r0) (.ret (aS 1) (9))<|
 .jk Tryz.f73 0 [1,1,0,0] 13 (fun r_=>⟨[(1,.ptr 0 0),(15,.b_ r_)],[mF p_x]⟩) ⟨[(1,.ptr 0 0)],[mF p_x]⟩ (QY p_x) fun r1=>
 .iB (r1) (.ret (aS 1) (8))<|
 .cl (ate p_x.gq) fun r2 _=>
 .iB (r2 != 0) (.ret (aS 1) (r2))<|
 .jk Tryz.f73 0 [1,1,1,1,0,0] 23 (fun r_=>⟨[(1,.ptr 0 0),(47,.b_ r_)],[mF p_x]⟩) ⟨[(1,.ptr 0 0)],[mF p_x]⟩ (QZ p_x) fun r3=>
 .iB (r3) (.ret (aS 1) (11))<|
 .iB (p_x.jr) (.cl (ao6 p_x.bG) fun r4 _=>
 .ret (aS 1) (r4))<|
 .cl (atx p_x.bG) fun r5 _=>
 .iB (!r5) (.ret (aS 1) (4))<|
 .ret (aS 1) (0)
def aty(p_x:aQ):Option (Int):=Mo.den (alg p_x)
theorem ae3(p_x:aQ):FV (aty p_x) 73 [.dat (aQ.lf1 p_x)] .i_:=dA Tryz.func73
def zk(p_l:List aQ)(p_name:ByteArray):(Int)→Mo ((Int)⊕(Int)⊕Unit):=fun(v0)=>
 .nu p_l aQ.lf<|
 .iB (decide ((v0:Int)<(p_l.length:Int))) (.gx aQ.bf p_l v0 fun x0 _=>
 .iB (decide ((x0.fName:ByteArray)=(p_name:ByteArray))) (.rt [4] 0 (.inr (.inl (v0))))<|
 .rt [0,1,5] 0 (.inl (IntKind.wrap .i64 (v0+1))))<|
 .rt [] 0 (.inr (.inr (())))
def VG(p_l:List aQ)(p_name:ByteArray)(v0:Int):Option ((Int)⊕Unit):=bW (fun v_=>(zk p_l p_name v_).den) FU (v0)
def alh(p_l:List aQ)(p_name:ByteArray):Mo (Int):=
 .l2m [] Tryz.f126 0 [1,0,1,0] 0 (fun(v0)=>⟨[(0,.lf (.rows 31 (p_l.map aQ.lf))),(1,.lf (.str p_name)),(5,.i_ v0)],[]⟩) .ret (fun o_=>⟨[(4,.i_ o_)],[]⟩) (.exit 0) (fun _=>⟨[],[]⟩) (VG p_l p_name 0) (zk p_l p_name) (0) (fun o0=>
 .ret (aS 1) (o0)) fun o1=>
 .ret (aS 1) ((-1))
def atz(p_l:List aQ)(p_name:ByteArray):Option (Int):=Mo.den (alh p_l p_name)
theorem ao9(p_l:List aQ)(p_name:ByteArray):FV (atz p_l p_name) 126 [.lf (.rows 31 (p_l.map aQ.lf)),.lf (.str p_name)] .i_:=dA Tryz.func126
def DT(p_l:List ByteArray):(Int)→Mo ((Int)⊕(Unit⊕Unit)):=fun(v0)=>
 .nu p_l lfS<|
 .iB (decide ((v0:Int)<(p_l.length:Int))) (.gx lS_ p_l v0 fun x0 _=>
 .cl (AX x0) fun r0 _=>
 .iB (!r0) (.rt [2] 0 (.inr (.inl ())))<|
 .l2m [] Tryz.f315 0 [1,0,1,0,0,1,0,0,1,1,0] 0 (fun(v1)=>⟨[(0,.lf (.rows 1 (p_l.map lfS))),(3,.i_ v0),(4,.i_ v1)],[]⟩) .ret (fun _=>⟨[(2,.b_ false)],[]⟩) (.exit 2) (fun _=>⟨[(0,.lf (.rows 1 (p_l.map lfS))),(3,.i_ v0)],[]⟩) (F7 p_l v0 0) (qL p_l v0) (0) (fun o0=>
 .rt [2] 0 (.inr (.inl ()))) fun o1=>
 .rt [0,3] 0 (.inl (IntKind.wrap .i64 (v0+1))))<|
 .rt [] 0 (.inr (.inr (())))
def atA(p_l:List ByteArray)(v0:Int):Option (Unit⊕Unit):=bW (fun v_=>(DT p_l v_).den) FU (v0)
def ap0(p_l:List ByteArray):Mo (Bool):=
 .l2 Tryz.f315 0 [1,0,1,0] 0 (fun(v0)=>⟨[(0,.lf (.rows 1 (p_l.map lfS))),(3,.i_ v0)],[]⟩) .ret (fun _=>⟨[(2,.b_ false)],[]⟩) (.exit 0) (fun _=>⟨[],[]⟩) (DT p_l) (0) (fun o0=>
 .ret (aS 1) (false)) fun o1=>
 .ret (aS 1) (true)
def Q80(p_l:List ByteArray):Option (Bool):=Mo.den (ap0 p_l)
theorem ali(p_l:List ByteArray):FV (Q80 p_l) 315 [.lf (.rows 1 (p_l.map lfS))] .b_:=dA Tryz.func315
def Zd(p_has:Bool)(p_v:ah):Mo (Bool):=
 .iG 4001 (p_has) (.cl (rD p_v) fun r0 _=>
 .rt [0,3,4,10] 1 (!r0))<|
 .rt [0,3,4,10] 1 (false)
def Ze(p_has:Bool)(p_v:ah)(r0:Bool):Mo (Bool):=
 .iG 4006 (r0) (.ret ⟨[.kill 0],[4,20],[],1⟩ (true))<|
 .iG 4009 (!p_has) (.cl (VB p_v (ah.mk 0 0 ⟨#[]⟩ [] [])) fun r1 _=>
 .ret ⟨[.kill 0],[4,20],[],1⟩ (!r1))<|
 .ret ⟨[.kill 0],[4,20],[],1⟩ (false)
def ap1(p_has:Bool)(p_v:ah):Mo (Bool):=
 .sf Tryz.f316 0 [1,0] 0 6 1 [(0,.b_ p_has),(3,.ptr 0 0),(4,.b_ false)] [aX p_v] 10 (Zd p_has p_v) fun r0=>
 .sk Tryz.f316 0 [1,0] 6 10 1 (fun r_=>⟨[(4,.b_ false),(20,.b_ r_)],[.dead]⟩) ⟨[(0,.b_ p_has),(3,.ptr 0 0),(4,.b_ false),(10,.b_ r0)],[aX p_v]⟩ (Ze p_has p_v r0) fun r1=>
 .sk Tryz.f316 0 [1,0] 16 1 1 (fun r_=>⟨[(4,.b_ r1)],[.dead]⟩) ⟨[(4,.b_ false),(20,.b_ r1)],[.dead]⟩ (yQ r1) fun r2=>
 .ret (aS 1) (r1)
def Q98(p_has:Bool)(p_v:ah):Option (Bool):=Mo.den (ap1 p_has p_v)
theorem alj(p_has:Bool)(p_v:ah):FV (Q98 p_has p_v) 316 [.b_ p_has,.dat (ah.lf1 p_v)] .b_:=dA Tryz.func316
def DU(p_s:aI):(Int×(List ByteArray))→Mo ((Int×(List ByteArray))⊕((List ByteArray))):=fun(v0,l0)=>
 .nu p_s.dD bH.lf<|
 .iB (decide ((v0:Int)<(p_s.dD.length:Int))) (.gx bH.bf p_s.dD v0 fun x0 _=>
 .say [.rows ((l0++[x0.fName]).map lfS)] (ok1 (by simp[lfS]:(l0++[x0.fName]).map lfS=(l0.map lfS)++[(lfS x0.fName)]))<|
 .grd ((l0.length+[x0.fName].length)*16≤140737488355328) fun h0=>
 .say [] (ok1 (cp_ lfS h0))<|
 .ret ⟨[],[1,3,4],[(3,1)],2⟩ (.inl (IntKind.wrap .i64 (v0+1),l0++[x0.fName])))<|
 .rt [1,3] 2 (.inr (l0))
def acz(p_s:aI)(v0:Int)(l0:List ByteArray):Option (((List ByteArray))):=bW (fun v_=>(DU p_s v_).den) FU (v0,l0)
def Zf(p_s:aI)(r0:((List ByteArray))):Mo (Bool):=
 .cl (ali p_s.dZ) fun r1 _=>
 .iG 14004 (!r1) (.ret ⟨[.kill 1],[1,30],[],2⟩ (true))<|
 .say [.at_ 14 6,.frz 1] ok0<|
 .cl (ali r0) fun r2 _=>
 .rt [1,30] 2 (!r2)
def Rf(p_s:aI):Mo (Bool):=
 .iG 18003 (decide ((p_s.iZ:Int)<0)) (.rt [1,39] 2 (true))<|
 .say [] (ok1 (by decide:(2:Int)≠0))<|
 .rt [1,39] 2 ((Int.tmod p_s.iZ 2)==1)
def Rh(p_s:aI)(r0:Bool):Mo (Bool):=
 .oV 18009 (r0) [1,44] 2 (decide ((4096:Int)≤p_s.iZ))
def Ri(p_s:aI)(r0:Bool):Mo (Bool):=
 .oV 18014 (r0) [1,49] 2 (decide ((p_s.jQ:Int)<0))
def Rj(p_s:aI)(r0:Bool):Mo (Bool):=
 .oV 18019 (r0) [1,54] 2 (decide ((p_s.jR:Int)<(-1)))
def Rk(p_s:aI)(r0:Bool):Mo (Bool):=
 .iG 18024 (r0) (.rt [1,60] 2 (true))<|
 .nu p_s.eU aI.lf<|
 .rt [1,60] 2 (decide ((1:Int)<(p_s.eU.length:Int)))
def Rl(p_s:aI):Mo (Bool):=
 .cl (alj p_s.jE p_s.kT) fun r0 _=>
 .iG 22005 (r0) (.rt [1,72] 2 (true))<|
 .cl (alj p_s.jF p_s.kU) fun r1 _=>
 .rt [1,72] 2 (r1)
def zn(p_s:aI):(Int)→Mo ((Int)⊕(Unit⊕Unit)):=fun(v0)=>
 .nu p_s.iV ah.lf<|
 .iB (decide ((v0:Int)<(p_s.iV.length:Int))) (.gx ah.bf p_s.iV v0 fun x0 _=>
 .cl (rD x0) fun r0 _=>
 .iB (!r0) (.ret ⟨[.kill 0],[2],[],2⟩ (.inr (.inl ())))<|
 .rt [1,5] 2 (.inl (IntKind.wrap .i64 (v0+1))))<|
 .ret ⟨[.kill 0],[],[],2⟩ (.inr (.inr (())))
def VH(p_s:aI)(v0:Int):Option (Unit⊕Unit):=bW (fun v_=>(zn p_s v_).den) FU (v0)
def ap2(p_s:aI):Mo (Int):=
 .say [] (ok1 (by simp[lfS]:(([]:List ByteArray).map lfS)=[]))<|
 .l1m [.sQ 3 9 1,.mg 1 (([]:List ByteArray).map lfS)] Tryz.f263 0 [1,1,0,1,0] 0 (.exit 0) (fun(v0,l0)=>⟨[(1,.ptr 0 0),(3,.own 1),(4,.i_ v0)],[fP p_s,.row 9 1 (l0.map lfS)]⟩) (fun r_=>⟨[(1,.ptr 0 0),(3,.own 1)],[fP p_s,.row 9 1 (r_.map lfS)]⟩) (acz p_s 0 ([]:List ByteArray)) (DU p_s) (0,([]:List ByteArray)) fun r0=>
 .jk Tryz.f263 0 [1,1,1,0,0] 19 (fun r_=>⟨[(1,.ptr 0 0),(30,.b_ r_)],[fP p_s,.dead]⟩) ⟨[(1,.ptr 0 0),(3,.own 1)],[fP p_s,.row 9 1 (r0.map lfS)]⟩ (Zf p_s r0) fun r1=>
 .iB (r1) (.ret (aS 1) (9))<|
 .sf Tryz.f263 0 [1,1,1,1,0,0] 0 9 8 [(1,.ptr 0 0)] [fP p_s,.dead] 39 (Rf p_s) fun r2=>
 .sb Tryz.f263 0 [1,1,1,1,0,0] 9 5 8 [(1,.ptr 0 0)] [fP p_s,.dead] 39 44 r2 (Rh p_s r2) fun r3=>
 .sb Tryz.f263 0 [1,1,1,1,0,0] 14 5 8 [(1,.ptr 0 0)] [fP p_s,.dead] 44 49 r3 (Ri p_s r3) fun r4=>
 .sb Tryz.f263 0 [1,1,1,1,0,0] 19 5 8 [(1,.ptr 0 0)] [fP p_s,.dead] 49 54 r4 (Rj p_s r4) fun r5=>
 .sb Tryz.f263 0 [1,1,1,1,0,0] 24 6 8 [(1,.ptr 0 0)] [fP p_s,.dead] 54 60 r5 (Rk p_s r5) fun r6=>
 .iB (r6) (.ret (aS 1) (1))<|
 .jk Tryz.f263 0 [1,1,1,1,1,0,0] 27 (fun r_=>⟨[(1,.ptr 0 0),(72,.b_ r_)],[fP p_s,.dead]⟩) ⟨[(1,.ptr 0 0)],[fP p_s,.dead]⟩ (Rl p_s) fun r7=>
 .iB (r7) (.ret (aS 1) (8))<|
 .l2m [] Tryz.f263 0 [1,1,1,1,1,1,0,1,0] 0 (fun(v1)=>⟨[(1,.ptr 0 0),(5,.i_ v1)],[fP p_s,.dead]⟩) .ret (fun _=>⟨[(2,.i_ 8)],[.dead,.dead]⟩) (.exit 2) (fun _=>⟨[],[.dead,.dead]⟩) (VH p_s 0) (zn p_s) (0) (fun o0=>
 .ret (aS 1) (8)) fun o1=>
 .ret (aS 1) (0)
def Q14(p_s:aI):Option (Int):=Mo.den (ap2 p_s)
theorem atB(p_s:aI):FV (Q14 p_s) 263 [.dat (aI.lf1 p_s)] .i_:=dA Tryz.func263
abbrev VI(m:aI→Int→Int→Option (Int×Int)):Prop:=∀p_s p_number p_level,FV (m p_s p_number p_level) 196 [.dat (aI.lf1 p_s),.i_ p_number,.i_ p_level] (fun r=>.tup [.i_ r.1,.i_ r.2])
structure Zg where
 m1:(p_s:aI)→(p_number:Int)→(p_level:Int)→Option (Int×Int)
 ok1:VI m1
def Lj(R_:Zg)(p_level:Int)(p_number:Int)(p_s:aI):Mo (Bool):=
 .oV 4002 (decide ((16:Int)<p_level)) [1,2,3,18] 1 (decide ((64:Int)<p_number))
def Zh(R_:Zg)(p_level:Int)(p_s:aI)(v0:Int)(v1:Int):Mo (aI):=
 .iB (decide ((v1:Int)<(p_s.dD.length:Int))) (.gx bH.bf p_s.dD v1 fun x0 _=>
 .ret ⟨[.norm 1],[1,2,3,9,10],[],2⟩ (x0.aZ))<|
 .nu p_s.dD bH.lf<|
 .gx aI.bf p_s.eU (IntKind.wrap .i64 (v1-(p_s.dD.length:Int))) fun x1 _=>
 .ret ⟨[.norm 1],[1,2,3,9,10],[],2⟩ (x1)
def acA(R_:Zg)(p_level:Int)(p_s:aI)(v0:Int)(v1:Int):Option (aI):=Mo.den (Zh R_ p_level p_s v0 v1)
def um(R_:Zg)(p_level:Int)(p_s:aI):(Int×Int)→Mo ((Int×Int)⊕(Int×Int)⊕(Int)):=fun(v0,v1)=>
 .nu p_s.dD bH.lf<|
 .nu p_s.eU aI.lf<|
 .iB (decide ((v1:Int)<(IntKind.wrap .i64 ((p_s.dD.length:Int)+(p_s.eU.length:Int))))) (.nu p_s.dD bH.lf<|
 .jp Tryz.f196 0 [1,1,1,0,1,0,0,1,0,0,1,0,1] 1 [1,2,3,9,10,41] 2 (.normal) (fun r_=>⟨[(1,.i_ v0),(2,.i_ p_level),(3,.ptr 0 0),(9,.i_ v1),(10,.ptr 1 0)],[fP p_s,fP r_]⟩) ⟨[(1,.i_ v0),(2,.i_ p_level),(3,.ptr 0 0),(9,.i_ v1),(10,.ptr 1 0),(41,.lf (.bool (decide ((v1:Int)<(p_s.dD.length:Int)))))],[fP p_s,.box 31 (Z31)]⟩ (acA R_ p_level p_s v0 v1) (jW (by kernel_rfl)) fun r0 _=>
 .cl (R_.ok1 r0 (IntKind.wrap .i64 (v0+1)) (IntKind.wrap .i64 (p_level+1))) fun r1 _=>
 .iB (r1.2 != 0) (.ret ⟨[.kill 0],[6,7],[],1⟩ (.inr (.inl (r1.1,r1.2))))<|
 .rt [1,2,3,9] 1 (.inl (r1.1,IntKind.wrap .i64 (v1+1))))<|
 .ret ⟨[.kill 0],[1],[],1⟩ (.inr (.inr (v0)))
def ae4(R_:Zg)(p_level:Int)(p_s:aI)(v0:Int)(v1:Int):Option ((Int×Int)⊕(Int)):=bW (fun v_=>(um R_ p_level p_s v_).den) FU (v0,v1)
def Rn(R_:Zg)(p_s:aI)(p_number:Int)(p_level:Int):Mo (Int×Int):=
 .jk Tryz.f196 0 [1,0,0] 9 (fun r_=>⟨[(1,.i_ p_number),(2,.i_ p_level),(3,.ptr 0 0),(18,.b_ r_)],[fP p_s]⟩) ⟨[(1,.i_ p_number),(2,.i_ p_level),(3,.ptr 0 0)],[fP p_s]⟩ (Lj R_ p_level p_number p_s) fun r0=>
 .iB (r0) (.ret (aS 2) (p_number,2))<|
 .cl (atB p_s) fun r1 _=>
 .iB (r1 != 0) (.ret (aS 2) (p_number,r1))<|
 .l2m [] Tryz.f196 0 [1,1,1,0,1,0] 0 (fun(v0,v1)=>⟨[(1,.i_ v0),(2,.i_ p_level),(3,.ptr 0 0),(9,.i_ v1)],[fP p_s]⟩) .ret (fun o_=>⟨[(6,.i_ o_.1),(7,.i_ o_.2)],[.dead]⟩) (.exit 0) (fun o_=>⟨[(1,.i_ o_)],[.dead]⟩) (ae4 R_ p_level p_s p_number 0) (um R_ p_level p_s) (p_number,0) (fun o0=>
 .ret (aS 2) (o0.1,o0.2)) fun o1=>
 .ret (aS 2) (o1,0)
theorem apa(R_:Zg):VI fun p_s p_number p_level=>Mo.den (Rn R_ p_s p_number p_level):=fun _ _ _=>dA Tryz.func196
def sH:Nat→Zg
 |0=>{ m1:=fun p_s p_number p_level=>none,ok1:=fun _ _ _ _ h=>(by cases h) }
 |n_+1=>{ m1:=fun p_s p_number p_level=>Mo.den (Rn (sH n_) p_s p_number p_level),ok1:=apa (sH n_) }
def Q35(p_s:aI)(p_number:Int)(p_level:Int):Option (Int×Int):=(sH FU).m1 p_s p_number p_level
theorem atC:VI Q35:=(sH FU).ok1
def alk(p_s:aI):Mo (Int):=
 .cl (atC p_s 1 1) fun r0 _=>
 .ret (aS 1) (r0.2)
def atD(p_s:aI):Option (Int):=Mo.den (alk p_s)
theorem apb(p_s:aI):FV (atD p_s) 127 [.dat (aI.lf1 p_s)] .i_:=dA Tryz.func127
def DV(p_d:bU):(Int)→Mo ((Int)⊕(Int)⊕Unit):=fun(v0)=>
 .nu p_d.bM aQ.lf<|
 .iB (decide ((v0:Int)<(p_d.bM.length:Int))) (.gx aQ.bf p_d.bM v0 fun x0 _=>
 .cl (ae3 x0) fun r0 _=>
 .iB (r0 != 0) (.ret ⟨[.kill 0],[2],[],1⟩ (.inr (.inl (r0))))<|
 .say [.order [(true,0),(true,1),(true,2),(true,3),(true,4),(true,5),(true,6),(true,7),(true,9),(false,8),(true,10)] none []] ok0<|
 .gx aQ.bf p_d.bM v0 fun x1 _=>
 .cl (ao9 p_d.bM x1.fName) fun r1 _=>
 .iB (r1 != v0) (.ret ⟨[.kill 0],[2],[],1⟩ (.inr (.inl (16))))<|
 .rt [1,3] 1 (.inl (IntKind.wrap .i64 (v0+1))))<|
 .rt [1] 1 (.inr (.inr (())))
def VJ(p_d:bU)(v0:Int):Option ((Int)⊕Unit):=bW (fun v_=>(DV p_d v_).den) FU (v0)
def Zi(p_d:bU):Mo (Bool):=
 .oV 28003 (decide ((p_d.lg:Int)<0)) [1,47] 1 (decide ((2:Int)<p_d.lg))
def Ro(p_d:bU)(r0:Bool):Mo (Bool):=
 .iG 28008 (r0) (.rt [1,57] 1 (true))<|
 .aV 28012 (p_d.jo != 0) [1,57] 1 (p_d.jo != 1)
def ap3(p_d:bU):Mo (Int):=
 .cl (AX p_d.fName) fun r0 _=>
 .iB (!r0) (.ret (aS 1) (9))<|
 .nu p_d.bM aQ.lf<|
 .iB (decide ((16:Int)<(p_d.bM.length:Int))) (.ret (aS 1) (2))<|
 .l2m [] Tryz.f72 0 [1,1,1,0,1,0] 0 (fun(v0)=>⟨[(1,.ptr 0 0),(3,.i_ v0)],[nH p_d]⟩) .ret (fun o_=>⟨[(2,.i_ o_)],[.dead]⟩) (.exit 0) (fun _=>⟨[(1,.ptr 0 0)],[nH p_d]⟩) (VJ p_d 0) (DV p_d) (0) (fun o0=>
 .ret (aS 1) (o0)) fun o1=>
 .sf Tryz.f72 0 [1,1,1,1,0,0] 0 8 13 [(1,.ptr 0 0)] [nH p_d] 47 (Zi p_d) fun r1=>
 .sb Tryz.f72 0 [1,1,1,1,0,0] 8 10 13 [(1,.ptr 0 0)] [nH p_d] 47 57 r1 (Ro p_d r1) fun r2=>
 .iB (r2) (.ret (aS 1) (1))<|
 .cl (apb p_d.aZ) fun r3 _=>
 .ret (aS 1) (r3)
def Q51(p_d:bU):Option (Int):=Mo.den (ap3 p_d)
theorem atE(p_d:bU):FV (Q51 p_d) 72 [.dat (bU.lf1 p_d)] .i_:=dA Tryz.func72
def Iz(p_hi:Int)(p_lo:Int)(p_w:aG):Mo (Bool):=
 .oV 6003 (decide ((p_w.aF:Int)<p_lo)) [3,7,20] 1 (decide ((p_hi:Int)<p_w.aF))
def IB(p_w:aG)(r0:Bool):Mo (Bool):=
 .iG 6008 (r0) (.rt [3,7,25] 1 (true))<|
 .cl (as6 p_w) fun r1 _=>
 .rt [3,7,25] 1 (!r1)
def DW(p_w:aG)(r0:Bool):Mo (Bool):=
 .iG 6013 (r0) (.rt [3,7,35] 1 (true))<|
 .cl (aeM p_w.aF) fun r1 _=>
 .iG 6016 (r1) (.nu p_w.bQ aG.lf<|
 .rt [3,7,35] 1 ((p_w.bQ.length:Int)==0))<|
 .rt [3,7,35] 1 (false)
def Zj(p_w:aG)(r0:Bool):Mo (Unit):=
 .rt [3,7,12] 1 ()
def Zk(p_w:aG):Mo (Bool):=
 .cl (aeK p_w.aF) fun r0 _=>
 .iG 14002 (r0) (.cl (Iy p_w.gu) fun r1 _=>
 .rt [3,7,49] 1 (!r1))<|
 .rt [3,7,49] 1 (false)
def Zl(p_w:aG)(r0:Bool):Mo (Bool):=
 .iG 14008 (r0) (.rt [3,7,59] 1 (true))<|
 .cl (aeL p_w.aF) fun r1 _=>
 .iG 14011 (r1) (.cl (Iy p_w.mM) fun r2 _=>
 .rt [3,7,59] 1 (!r2))<|
 .rt [3,7,59] 1 (false)
def Zm(p_w:aG)(r0:Bool):Mo (Bool):=
 .iG 14018 (r0) (.rt [3,7,70] 1 (true))<|
 .iG 14021 (p_w.aF==7) (.cl (Iy p_w.aY.fName) fun r1 _=>
 .rt [3,7,70] 1 (!r1))<|
 .rt [3,7,70] 1 (false)
def Zn(p_w:aG)(r0:Bool):Mo (Unit):=
 .rt [3,7,41] 1 ()
def Zo(p_w:aG):Mo (Bool):=
 .aV 18002 (p_w.aF==10) [3,7,78] 1 (decide ((p_w.eu:Int)<1))
def Zp(p_w:aG)(r0:Bool):Mo (Bool):=
 .oV 18007 (r0) [3,7,83] 1 (decide ((p_w.eu:Int)<0))
def Zq(p_w:aG)(r0:Bool):Mo (Bool):=
 .oV 18012 (r0) [3,7,88] 1 (decide ((1099511627776:Int)<p_w.eu))
def Zr(p_w:aG)(r0:Bool):Mo (Bool):=
 .iG 18017 (r0) (.rt [3,7,98] 1 (true))<|
 .iG 18020 (p_w.aF==12) (.cl (as7 p_w.eG) fun r1 _=>
 .rt [3,7,98] 1 (!r1))<|
 .rt [3,7,98] 1 (false)
def Zt(p_w:aG)(r0:Bool):Mo (Unit):=
 .rt [3,7,71] 1 ()
def Zu(p_w:aG):Mo (Bool):=
 .cl (Vq p_w.aF) fun r0 _=>
 .iG 22002 (r0) (.cl (as8 p_w.fU) fun r1 _=>
 .rt [3,7,99] 1 (!r1))<|
 .rt [3,7,99] 1 (false)
def Zv(p_w:aG):Mo ((Int)⊕Unit):=
 .iB (p_w.aF==2) (.cl (ak3 p_w.aU p_w.fU) fun r0 _=>
 .iB (r0 != 0) (.ret ⟨[.kill 0],[6],[],1⟩ (.inl (r0)))<|
 .rt [3,7] 1 (.inr (())))<|
 .rt [3,7] 1 (.inr (()))
def Zw(p_w:aG):Mo (Bool):=
 .cl (Vq p_w.aF) fun r0 _=>
 .iG 34002 (r0) (.cl (vH p_w.dK) fun r1 _=>
 .rt [3,7,125] 1 (!r1))<|
 .rt [3,7,125] 1 (false)
def Zx(p_w:aG)(r0:Bool):Mo ((Int)⊕Unit):=
 .iB (r0) (.cl (ak3 p_w.dK p_w.fU) fun r1 _=>
 .iB (r1 != 0) (.ret ⟨[.kill 0],[6],[],1⟩ (.inl (r1)))<|
 .rt [3,7] 1 (.inr (())))<|
 .rt [3,7] 1 (.inr (()))
def apc(p_w:aG)(p_lo:Int)(p_hi:Int):Mo (Int):=
 .sk Tryz.f32 0 [1,1,0,0,0] 0 8 2 (fun r_=>⟨[(3,.ptr 0 0),(7,.i_ p_w.aF),(20,.b_ r_)],[dO p_w]⟩) ⟨[(1,.i_ p_lo),(2,.i_ p_hi),(3,.ptr 0 0),(7,.i_ p_w.aF)],[dO p_w]⟩ (Iz p_hi p_lo p_w) fun r0=>
 .sb Tryz.f32 0 [1,1,0,0,0] 8 5 2 [(3,.ptr 0 0),(7,.i_ p_w.aF)] [dO p_w] 20 25 r0 (IB p_w r0) fun r1=>
 .sb Tryz.f32 0 [1,1,0,0,0] 13 10 2 [(3,.ptr 0 0),(7,.i_ p_w.aF)] [dO p_w] 25 35 r1 (DW p_w r1) fun r2=>
 .sk Tryz.f32 0 [1,1,0,0,0] 23 1 2 (fun r_=>⟨[(3,.ptr 0 0),(7,.i_ p_w.aF),(12,.b_ r2)],[dO p_w]⟩) ⟨[(3,.ptr 0 0),(7,.i_ p_w.aF),(35,.b_ r2)],[dO p_w]⟩ (Zj p_w r2) fun r3=>
 .iB (r2) (.ret (aS 1) (11))<|
 .nu p_w.bQ aG.lf<|
 .iB (decide ((256:Int)<(p_w.bQ.length:Int))) (.ret (aS 1) (2))<|
 .sf Tryz.f32 0 [1,1,0,0,1,1,1,1,0] 0 8 6 [(3,.ptr 0 0),(7,.i_ p_w.aF)] [dO p_w] 49 (Zk p_w) fun r4=>
 .sb Tryz.f32 0 [1,1,0,0,1,1,1,1,0] 8 10 6 [(3,.ptr 0 0),(7,.i_ p_w.aF)] [dO p_w] 49 59 r4 (Zl p_w r4) fun r5=>
 .sb Tryz.f32 0 [1,1,0,0,1,1,1,1,0] 18 11 6 [(3,.ptr 0 0),(7,.i_ p_w.aF)] [dO p_w] 59 70 r5 (Zm p_w r5) fun r6=>
 .sk Tryz.f32 0 [1,1,0,0,1,1,1,1,0] 29 1 6 (fun r_=>⟨[(3,.ptr 0 0),(7,.i_ p_w.aF),(41,.b_ r6)],[dO p_w]⟩) ⟨[(3,.ptr 0 0),(7,.i_ p_w.aF),(70,.b_ r6)],[dO p_w]⟩ (Zn p_w r6) fun r7=>
 .iB (r6) (.ret (aS 1) (9))<|
 .sf Tryz.f32 0 [1,1,0,0,1,1,1,1,1,1,0] 0 7 8 [(3,.ptr 0 0),(7,.i_ p_w.aF)] [dO p_w] 78 (Zo p_w) fun r8=>
 .sb Tryz.f32 0 [1,1,0,0,1,1,1,1,1,1,0] 7 5 8 [(3,.ptr 0 0),(7,.i_ p_w.aF)] [dO p_w] 78 83 r8 (Zp p_w r8) fun r9=>
 .sb Tryz.f32 0 [1,1,0,0,1,1,1,1,1,1,0] 12 5 8 [(3,.ptr 0 0),(7,.i_ p_w.aF)] [dO p_w] 83 88 r9 (Zq p_w r9) fun r10=>
 .sb Tryz.f32 0 [1,1,0,0,1,1,1,1,1,1,0] 17 10 8 [(3,.ptr 0 0),(7,.i_ p_w.aF)] [dO p_w] 88 98 r10 (Zr p_w r10) fun r11=>
 .sk Tryz.f32 0 [1,1,0,0,1,1,1,1,1,1,0] 27 1 8 (fun r_=>⟨[(3,.ptr 0 0),(7,.i_ p_w.aF),(71,.b_ r11)],[dO p_w]⟩) ⟨[(3,.ptr 0 0),(7,.i_ p_w.aF),(98,.b_ r11)],[dO p_w]⟩ (Zt p_w r11) fun r12=>
 .iB (r11) (.ret (aS 1) (1))<|
 .jk Tryz.f32 0 [1,1,0,0,1,1,1,1,1,1,1,1,0] 27 (fun r_=>⟨[(3,.ptr 0 0),(7,.i_ p_w.aF),(99,.b_ r_)],[dO p_w]⟩) ⟨[(3,.ptr 0 0),(7,.i_ p_w.aF)],[dO p_w]⟩ (Zu p_w) fun r13=>
 .iB (r13) (.ret (aS 1) (8))<|
 .j2 [] Tryz.f32 0 [1,1,1,0,1] 1 .ret (fun o_=>⟨[(6,.i_ o_)],[.dead]⟩) .normal (fun _=>⟨[(3,.ptr 0 0),(7,.i_ p_w.aF)],[dO p_w]⟩) ⟨[(3,.ptr 0 0),(7,.i_ p_w.aF),(109,.lf (.bool (p_w.aF==2)))],[dO p_w]⟩ (Zv p_w) (fun o0=>
 .ret (aS 1) (o0)) fun o1=>
 .jk Tryz.f32 0 [1,1,1,1,0,0] 39 (fun r_=>⟨[(3,.ptr 0 0),(7,.i_ p_w.aF),(125,.b_ r_)],[dO p_w]⟩) ⟨[(3,.ptr 0 0),(7,.i_ p_w.aF)],[dO p_w]⟩ (Zw p_w) fun r14=>
 .j2 [] Tryz.f32 0 [1,1,1,1,0,1] 1 .ret (fun o_=>⟨[(6,.i_ o_)],[.dead]⟩) .normal (fun _=>⟨[(3,.ptr 0 0),(7,.i_ p_w.aF)],[dO p_w]⟩) ⟨[(3,.ptr 0 0),(7,.i_ p_w.aF),(125,.b_ r14)],[dO p_w]⟩ (Zx p_w r14) (fun o2=>
 .ret (aS 1) (o2)) fun o3=>
 .iB (p_w.aF==4) (.cl (atE p_w.dS) fun r15 _=>
 .ret (aS 1) (r15))<|
 .iB (p_w.aF==6) (.cl (ae3 p_w.aY) fun r16 _=>
 .ret (aS 1) (r16))<|
 .ret (aS 1) (0)
def Q3(p_w:aG)(p_lo:Int)(p_hi:Int):Option (Int):=Mo.den (apc p_w p_lo p_hi)
theorem ap4(p_w:aG)(p_lo:Int)(p_hi:Int):FV (Q3 p_w p_lo p_hi) 32 [.dat (aG.lf1 p_w),.i_ p_lo,.i_ p_hi] .i_:=dA Tryz.func32
def Zy(p_e:bY):Mo (Bool):=
 .oV 8003 (decide ((p_e.eu:Int)<1)) [1,19] 1 (decide ((1099511627776:Int)<p_e.eu))
def Zz(p_e:bY)(r0:Bool):Mo (Bool):=
 .oV 8008 (r0) [1,24] 1 (decide ((p_e.BR:Int)<0))
def Rq(p_e:bY)(r0:Bool):Mo (Unit):=
 .rt [1,11] 1 ()
def Rt(p_e:bY):Mo (Bool):=
 .iG 12003 (!decide ((p_e.pJ:ByteArray)=(⟨#[]⟩:ByteArray))) (.cl (Iy p_e.pJ) fun r0 _=>
 .rt [1,25] 1 (!r0))<|
 .rt [1,25] 1 (false)
def Ru(p_e:bY):Mo (Int):=
 .iB (p_e.dI.aF==9) (.rt [1,4] 1 (3))<|
 .rt [1,4] 1 (7)
def VK(p_e:bY):Option (Int):=Mo.den (Ru p_e)
def zo(p_e:bY)(r0:Int):(Int)→Mo ((Int)⊕(Int)⊕Unit):=fun(v0)=>
 .nu p_e.dI.bQ aG.lf<|
 .iB (decide ((v0:Int)<(p_e.dI.bQ.length:Int))) (.gx aG.bf p_e.dI.bQ v0 fun x0 _=>
 .cl (ap4 x0 2 r0) fun r1 _=>
 .iB (r1 != 0) (.ret ⟨[.kill 0],[2],[],1⟩ (.inr (.inl (r1))))<|
 .rt [1,4,5] 1 (.inl (IntKind.wrap .i64 (v0+1))))<|
 .ret ⟨[.kill 0],[],[],1⟩ (.inr (.inr (())))
def VL(p_e:bY)(r0:Int)(v0:Int):Option ((Int)⊕Unit):=bW (fun v_=>(zo p_e r0 v_).den) FU (v0)
def ap5(p_e:bY):Mo (Int):=
 .iB (decide ((p_e.BQ:Int)<0)) (.ret (aS 1) (24))<|
 .sf Tryz.f12 0 [1,0,0,1,1,0] 0 8 3 [(1,.ptr 0 0)] [jI p_e] 19 (Zy p_e) fun r0=>
 .sb Tryz.f12 0 [1,0,0,1,1,0] 8 5 3 [(1,.ptr 0 0)] [jI p_e] 19 24 r0 (Zz p_e r0) fun r1=>
 .sk Tryz.f12 0 [1,0,0,1,1,0] 13 1 3 (fun r_=>⟨[(1,.ptr 0 0),(11,.b_ r1)],[jI p_e]⟩) ⟨[(1,.ptr 0 0),(24,.b_ r1)],[jI p_e]⟩ (Rq p_e r1) fun r2=>
 .iB (r1) (.ret (aS 1) (1))<|
 .jk Tryz.f12 0 [1,0,0,1,1,1,1,0] 17 (fun r_=>⟨[(1,.ptr 0 0),(25,.b_ r_)],[jI p_e]⟩) ⟨[(1,.ptr 0 0)],[jI p_e]⟩ (Rt p_e) fun r3=>
 .iB (r3) (.ret (aS 1) (9))<|
 .cl (ap4 p_e.dI 1 12) fun r4 _=>
 .iB (r4 != 0) (.ret (aS 1) (r4))<|
 .jp Tryz.f12 0 [1,1,1,1,0,1] 1 [1,4,44] 1 (.normal) (fun r_=>⟨[(1,.ptr 0 0),(4,.i_ r_)],[jI p_e]⟩) ⟨[(1,.ptr 0 0),(4,.i_ 7),(44,.lf (.bool (p_e.dI.aF==9)))],[jI p_e]⟩ (VK p_e) (jW (by kernel_rfl)) fun r5 _=>
 .l2m [] Tryz.f12 0 [1,1,1,1,1,0,1,0] 0 (fun(v0)=>⟨[(1,.ptr 0 0),(4,.i_ r5),(5,.i_ v0)],[jI p_e]⟩) .ret (fun o_=>⟨[(2,.i_ o_)],[.dead]⟩) (.exit 1) (fun _=>⟨[],[.dead]⟩) (VL p_e r5 0) (zo p_e r5) (0) (fun o0=>
 .ret (aS 1) (o0)) fun o1=>
 .ret (aS 1) (0)
def Q23(p_e:bY):Option (Int):=Mo.den (ap5 p_e)
theorem Ll(p_e:bY):FV (Q23 p_e) 12 [.dat (bY.lf1 p_e)] .i_:=dA Tryz.func12
def alm(p_e:bY):Mo (Bool):=
 .ask (aoJ p_e) fun r0 h0=>
 .say [] (ok1 (aoK _ _ h0))<|
 .ite (!r0) (fun c0=>
 .say [.iY (.q 0 (.l 1 (.q 2 (.q 3 (.alt 4 (.alt 5 (.l 6 (.l 7 (.q 8 (.q 9 (.l 10 (.q 11 (.q 12 (.q 13 .fin)))))))) (.l 6 (.l 5 (.l 7 (.q 8 (.q 9 (.l 10 (.q 11 (.q 12 (.q 13 .fin)))))))))) (.l 6 (.l 4 (.l 5 (.l 7 (.q 8 (.q 9 (.l 10 (.q 11 (.q 12 (.q 13 .fin))))))))))))))) (some 10) [] [.res (.b_ r0),.both [.gd 4003 true,.both [] []] [.gd 4003 true]] [2] 1 [(2,.b_ true)] [jI p_e]] (okc c0 (okc (rf_ ⟨[(2,.b_ true)],[jI p_e]⟩) (okc (rf_ ⟨[(2,.b_ true)],[jI p_e]⟩) (okc c0 (ok1 (rf_ ⟨[(2,.b_ true)],[jI p_e]⟩))))))<|
 .ret (aS 1) (true)) fun c0=>
 .say [] (ok1 c0)<|
 .ask (Q82 p_e) fun r1 h1=>
 .say [] (ok1 (vk _ _ h1))<|
 .ask (Q23 p_e) fun r2 h2=>
 .say [] (ok1 (Ll _ _ h2))<|
 .ite (r1==r2) (fun c1=>
 .say [] (ok1 c1)<|
 .ask (as1) fun r3 h3=>
 .say [.iY (.q 0 (.l 1 (.q 2 (.q 3 (.alt 4 (.alt 5 (.l 6 (.l 7 (.q 8 (.q 9 (.l 10 (.q 11 (.q 12 (.q 13 .fin)))))))) (.l 6 (.l 5 (.l 7 (.q 8 (.q 9 (.l 10 (.q 11 (.q 12 (.q 13 .fin)))))))))) (.l 6 (.l 4 (.l 5 (.l 7 (.q 8 (.q 9 (.l 10 (.q 11 (.q 12 (.q 13 .fin))))))))))))))) (some 10) [] [.res (.b_ r0),.both [.gd 4003 false,.both [.res (.i_ r1),.res (.i_ r2),.gd 4009 true,.res (.b_ r3)] [.res (.i_ r1),.res (.i_ r2),.gd 4009 true,.res (.b_ r3)]] [.gd 4003 false,.res (.i_ r1),.res (.i_ r2),.gd 4009 true,.res (.b_ r3)]] [2] 1 [(2,.b_ r3)] [jI p_e]] (okc (Vl  _ h3) (okc (rf_ ⟨[(2,.b_ r3)],[jI p_e]⟩) (okc (vk _ _ h1) (okc (Ll _ _ h2) (okc c1 (okc (Vl  _ h3) (okc (rf_ ⟨[(2,.b_ r3)],[jI p_e]⟩) (okc c0 (okc (vk _ _ h1) (okc (Ll _ _ h2) (okc c1 (okc (Vl  _ h3) (ok1 (rf_ ⟨[(2,.b_ r3)],[jI p_e]⟩))))))))))))))<|
 .ret (aS 1) (r3)) fun c1=>
 .say [.iY (.q 0 (.l 1 (.q 2 (.q 3 (.alt 4 (.alt 5 (.l 6 (.l 7 (.q 8 (.q 9 (.l 10 (.q 11 (.q 12 (.q 13 .fin)))))))) (.l 6 (.l 5 (.l 7 (.q 8 (.q 9 (.l 10 (.q 11 (.q 12 (.q 13 .fin)))))))))) (.l 6 (.l 4 (.l 5 (.l 7 (.q 8 (.q 9 (.l 10 (.q 11 (.q 12 (.q 13 .fin))))))))))))))) (some 10) [] [.res (.b_ r0),.both [.gd 4003 false,.both [.res (.i_ r1),.res (.i_ r2),.gd 4009 false] [.res (.i_ r1),.res (.i_ r2),.gd 4009 false]] [.gd 4003 false,.res (.i_ r1),.res (.i_ r2),.gd 4009 false]] [2] 1 [(2,.b_ false)] [jI p_e]] (okc c1 (okc (rf_ ⟨[(2,.b_ false)],[jI p_e]⟩) (okc (vk _ _ h1) (okc (Ll _ _ h2) (okc c1 (okc (rf_ ⟨[(2,.b_ false)],[jI p_e]⟩) (okc c0 (okc (vk _ _ h1) (okc (Ll _ _ h2) (okc c1 (ok1 (rf_ ⟨[(2,.b_ false)],[jI p_e]⟩))))))))))))<|
 .ret (aS 1) (false)
def atF(p_e:bY):Option (Bool):=Mo.den (alm p_e)
theorem apd(p_e:bY):FV (atF p_e) 3 [.dat (bY.lf1 p_e)] .b_:=dA Tryz.func3
end
end Go.Proofs.YtflpefkohpjjpaaGreatDoor
set_option linter.unusedSimpArgs false
set_option linter.unusedVariables false
namespace Go.Proofs.YtflpefkohpjjpaaGreatDoor
open Go.RowKit
theorem og(s:ByteArray)(k:Nat)(h:k<s.size):kN s (k:Int)=some s[k]:=by
 unfold kN;rw[if_pos (by omega),Int.toNat_natCast];exact getElem?_pos s k h
theorem jq{α:Type}(f:α→List Lf){x:α}:∀{l:List α},x∈l→aT (f x)≤dH (l.map f)
 |y::r,h=>by
  simp only[List.map_cons,dH]
  rcases List.mem_cons.1 h with rfl|h
  ·omega
  ·have:=jq f h;omega
theorem ji{α:Type}(f:α→List Lf)(hf:∀x,1≤aT (f x)):∀l:List α,l.length≤dH (l.map f)
 |[]=>by simp
 |x::r=>by have:=ji f hf r;have:=hf x;simp only[List.map_cons,List.length_cons,dH];omega
theorem dW(v:ah):aT v.lf1=5+v.fText.size+dH (v.aW.map ah.lf)+dH (v.aU.map aJ.lf):=by simp only[ah.lf1,aT,Lf.bulk];omega
theorem fV(v:aJ):aT v.lf1=1+v.fName.size+aT v.fValue.lf1:=by simp only[aJ.lf1,iq,aT,Lf.bulk];omega
theorem oJ(v:bn):aT v.lf1=2+dH (v.cO.map lfS):=by simp only[bn.lf1,aT,Lf.bulk];omega
theorem A8(v:cu):aT v.lf1=2:=by simp only[cu.lf1,aT,Lf.bulk]
theorem qM(v:dQ):aT v.lf1=3+dH (v.bF.map cu.lf):=by simp only[dQ.lf1,aT,Lf.bulk];omega
theorem jP(v:aP):aT v.lf1=6+dH (v.cO.map lfS)+v.fName.size+dH (v.eP.map lfS)+aT v.fArg.lf1+dH (v.bC.map aP.lf):=by simp only[aP.lf1,iq,aT,Lf.bulk];omega
theorem iw(v:aO):aT v.lf1=6+dH (v.cO.map lfS)+aT v.fArg.lf1+dH (v.fArgs.map ah.lf)+aT v.dY.lf1+aT v.fExpr.lf1+dH (v.bC.map aO.lf):=by simp only[aO.lf1,iq,aT,Lf.bulk];omega
theorem jX(v:aQ):aT v.lf1=6+v.fName.size+dH (v.gq.map bn.lf)+aT v.bG.lf1:=by simp only[aQ.lf1,iq,aT,Lf.bulk];omega
theorem uo(v:bH):aT v.lf1=1+v.fName.size+aT v.aZ.lf1:=by simp only[bH.lf1,iq,aT,Lf.bulk];omega
theorem gK(v:aI):aT v.lf1=11+aT v.kT.lf1+aT v.kU.lf1+dH (v.iV.map ah.lf)+dH (v.dZ.map lfS)+dH (v.dD.map bH.lf)+dH (v.eU.map aI.lf):=by simp only[aI.lf1,iq,aT,Lf.bulk];omega
theorem oK(v:bU):aT v.lf1=4+v.fName.size+dH (v.bM.map aQ.lf)+aT v.aZ.lf1:=by simp only[bU.lf1,iq,aT,Lf.bulk];omega
theorem kQ(v:aG):aT v.lf1=7+v.gu.size+aT v.fU.lf1+aT v.aU.lf1+aT v.dK.lf1+aT v.dS.lf1+aT v.aY.lf1+v.mM.size+dH (v.bQ.map aG.lf)+dH (v.eG.map lfI):=by simp only[aG.lf1,iq,aT,Lf.bulk];omega
theorem Ba(v:bY):aT v.lf1=4+v.pJ.size+aT v.dI.lf1:=by simp only[bY.lf1,iq,aT,Lf.bulk];omega
theorem aln(s:ByteArray):aT (lfS s)=s.size+1:=by simp only[lfS,aT,Lf.bulk,Nat.add_zero]
theorem atG(n:Int):aT (lfI n)=1:=by simp only[lfI,aT,Lf.bulk]
theorem jf(l:List ah):l.length≤dH (l.map ah.lf):=ji _ (fun x=>by rw[ah.bf,dW];omega) l
theorem iQ(l:List aJ):l.length≤dH (l.map aJ.lf):=ji _ (fun x=>by rw[aJ.bf,fV];omega) l
theorem ny(l:List bn):l.length≤dH (l.map bn.lf):=ji _ (fun x=>by rw[bn.bf,oJ];omega) l
theorem vO(l:List cu):l.length≤dH (l.map cu.lf):=ji _ (fun x=>by have:=A8 x;rw[cu.bf];omega) l
theorem uq(l:List aP):l.length≤dH (l.map aP.lf):=ji _ (fun x=>by rw[aP.bf,jP];omega) l
theorem oL(l:List aO):l.length≤dH (l.map aO.lf):=ji _ (fun x=>by rw[aO.bf,iw];omega) l
theorem kJ(l:List aQ):l.length≤dH (l.map aQ.lf):=ji _ (fun x=>by rw[aQ.bf,jX];omega) l
theorem l7(l:List bH):l.length≤dH (l.map bH.lf):=ji _ (fun x=>by rw[bH.bf,uo];omega) l
theorem nJ(l:List aI):l.length≤dH (l.map aI.lf):=ji _ (fun x=>by rw[aI.bf,gK];omega) l
theorem Bc(l:List aG):l.length≤dH (l.map aG.lf):=ji _ (fun x=>by rw[aG.bf,kQ];omega) l
theorem iy(l:List ByteArray):l.length≤dH (l.map lfS):=ji _ (fun x=>by rw[aln];omega) l
theorem Lm(l:List Int):l.length≤dH (l.map lfI):=ji _ (fun x=>by rw[atG];omega) l
theorem jK{x:ah}{l:List ah}(h:x∈l):aT x.lf1≤dH (l.map ah.lf):=by rw[←ah.bf];exact jq _ h
theorem iC{x:aJ}{l:List aJ}(h:x∈l):aT x.lf1≤dH (l.map aJ.lf):=by rw[←aJ.bf];exact jq _ h
theorem zq{x:bn}{l:List bn}(h:x∈l):aT x.lf1≤dH (l.map bn.lf):=jq _ h
theorem DX{x:aP}{l:List aP}(h:x∈l):aT x.lf1≤dH (l.map aP.lf):=by rw[←aP.bf];exact jq _ h
theorem uw{x:aO}{l:List aO}(h:x∈l):aT x.lf1≤dH (l.map aO.lf):=by rw[←aO.bf];exact jq _ h
theorem Gi{x:aQ}{l:List aQ}(h:x∈l):aT x.lf1≤dH (l.map aQ.lf):=jq _ h
theorem DY{x:bH}{l:List bH}(h:x∈l):aT x.lf1≤dH (l.map bH.lf):=by rw[←bH.bf];exact jq _ h
theorem vP{x:aI}{l:List aI}(h:x∈l):aT x.lf1≤dH (l.map aI.lf):=by rw[←aI.bf];exact jq _ h
theorem Rw{x:aG}{l:List aG}(h:x∈l):aT x.lf1≤dH (l.map aG.lf):=by rw[←aG.bf];exact jq _ h
theorem IC{x:ByteArray}{l:List ByteArray}(h:x∈l):x.size+1≤dH (l.map lfS):=by rw[←aln];exact jq _ h
theorem vS(x:Int):(strOfNums [x]).size=1:=by rw[Eu];rfl
theorem ae5(n:Int):∃r,Q28 n=some r∧r.size≤11:=by
 unfold Q28 ajN UR KN UU yR KO
 simp only[Mo.den,ak,aA,ay,aB]
 have key:∀a:Int,∃r,((bW (fun v_:Int×ByteArray×Int=>(bif decide ((v_.2.2:Int)<10) then some (decide ((128:Int)≤v_.1)) else some false).bind fun a_1=>bif a_1 then if v_.2.1.size+(strOfNums [gX .or .u8 (IntKind.wrap .u8 (Int.tmod v_.1 128)) 128]).size≤9223372036854775807 then some (.inl (IntKind.wrap .u64 (Int.tdiv v_.1 128),v_.2.1++strOfNums [gX .or .u8 (IntKind.wrap .u8 (Int.tmod v_.1 128)) 128],IntKind.wrap .i64 (v_.2.2+1))) else none else some (.inr (v_.1,v_.2.1))) FU (a,⟨#[]⟩,0))=some r)∧(r:Int×ByteArray).2.size≤10:=by
  intro a
  refine Jg 10 (by omega) (fun(k:Nat) (v:Int×ByteArray×Int)=>v.2.2=(k:Int)∧v.2.1.size=k) (fun(r:Int×ByteArray)=>r.2.size≤10) ⟨rfl,rfl⟩ ?_ ?_
  ·rintro k ⟨u,s,i⟩ hk ⟨h1,h2⟩
   simp only at h1 h2
   subst h1
   simp only[decide_eq_true (show(k:Int)<10 by omega),cond_true,Option.bind_some]
   cases decide ((128:Int)≤u) with
   |true=>
    left
    simp only[cond_true,vS,h2]
    rw[if_pos (by omega)]
    exact⟨_,rfl,inc k (by omega),by rw[ByteArray.size_append,vS,h2]⟩
   |false=>right;exact⟨_,rfl,by simp only;omega⟩
  ·rintro⟨u,s,i⟩ ⟨h1,h2⟩
   simp only at h1 h2
   subst h1
   exact⟨_,rfl,by simp only;omega⟩
 have fin:∀a:Int,∃r,(Option.bind (bW (fun v_:Int×ByteArray×Int=>(bif decide ((v_.2.2:Int)<10) then some (decide ((128:Int)≤v_.1)) else some false).bind fun a_1=>bif a_1 then if v_.2.1.size+(strOfNums [gX .or .u8 (IntKind.wrap .u8 (Int.tmod v_.1 128)) 128]).size≤9223372036854775807 then some (.inl (IntKind.wrap .u64 (Int.tdiv v_.1 128),v_.2.1++strOfNums [gX .or .u8 (IntKind.wrap .u8 (Int.tmod v_.1 128)) 128],IntKind.wrap .i64 (v_.2.2+1))) else none else some (.inr (v_.1,v_.2.1))) FU (a,⟨#[]⟩,0)) (fun r:Int×ByteArray=>if r.2.size+(strOfNums [IntKind.wrap .u8 r.1]).size≤9223372036854775807 then some (r.2++strOfNums [IntKind.wrap .u8 r.1]) else none))=some r∧r.size≤11:=by
  intro a
  obtain⟨r,h1,h2⟩:=key a
  rw[h1]
  simp only[Option.bind_some,vS]
  rw[if_pos (by omega)]
  exact⟨_,rfl,by rw[ByteArray.size_append,vS];omega⟩
 cases decide (n<0)
 ·exact fin _
 ·exact fin _
noncomputable def DZ(n:Int):ByteArray:=(Q28 n).getD ⟨#[]⟩
theorem ae6(n:Int):Q28 n=some (DZ n):=by
 obtain⟨r,h,_⟩:=ae5 n
 unfold DZ;rw[h];rfl
theorem Gj(n:Int):(DZ n).size≤11:=by
 obtain⟨r,h,h2⟩:=ae5 n
 unfold DZ;rw[h];exact h2
end Go.Proofs.YtflpefkohpjjpaaGreatDoor
set_option linter.unusedSimpArgs false
set_option linter.unusedVariables false
namespace Go.Proofs.YtflpefkohpjjpaaGreatDoor
open Go.RowKit
mutual
noncomputable def wrF:Lf→ByteArray
 |.int _ n=>DZ n
 |.str s=>DZ (s.size:Int)++s
 |.bool b=>if b then⟨#[1]⟩ else⟨#[0]⟩
 |.rows _ l=>DZ (l.length:Int)++wrQ l
noncomputable def wrQ:List (List Lf)→ByteArray
 |[]=>ByteArray.empty
 |r::q=>wrL r++wrQ q
noncomputable def wrL:List Lf→ByteArray
 |[]=>ByteArray.empty
 |x::r=>wrF x++wrL r
end
theorem vT(r s:List Lf):wrL (r++s)=wrL r++wrL s:=by
 induction r with
 |nil=>simp[wrL]
 |cons x r ih=>simp only[List.cons_append,wrL,ih,ByteArray.append_assoc]
theorem ae7(b:UInt8):(⟨#[b]⟩:ByteArray).size=1:=rfl
mutual
theorem atH:∀x:Lf,(wrF x).size≤12*x.bulk
 |.int _ n=>by have:=Gj n;simp only[wrF,Lf.bulk];omega
 |.str s=>by have:=Gj (s.size:Int);simp only[wrF,Lf.bulk,ByteArray.size_append];omega
 |.bool b=>by cases b<;>simp[wrF,Lf.bulk,ae7]
 |.rows _ l=>by have:=Gj (l.length:Int);have:=alo l;simp only[wrF,Lf.bulk,ByteArray.size_append];omega
theorem alo:∀l:List (List Lf),(wrQ l).size≤12*dH l
 |[]=>by simp[wrQ,dH]
 |r::q=>by have:=Gl r;have:=alo q;simp only[wrQ,dH,ByteArray.size_append];omega
theorem Gl:∀l:List Lf,(wrL l).size≤12*aT l
 |[]=>by simp[wrL,aT]
 |x::r=>by have:=atH x;have:=Gl r;simp only[wrL,aT,ByteArray.size_append];omega
end
def Ap(m:aN→Option aN)(s:ByteArray):Prop:=∀b,b.wF=true→b.fS.size+s.size≤4611686018427387904→m b=some ⟨b.fS++s,b.BX,b.wF⟩
theorem Ap.bind{m k:aN→Option aN}{s t:ByteArray}(h:Ap m s)(h2:Ap k t):Ap (fun b=>(m b).bind k) (s++t):=by
 intro b hb hs
 rw[ByteArray.size_append] at hs
 show(m b).bind k=_
 rw[h b hb (by omega),Option.bind_some]
 refine(h2 ⟨b.fS++s,b.BX,b.wF⟩ hb (by simp only[ByteArray.size_append];omega)).trans ?_
 simp only[ByteArray.append_assoc]
theorem Ap.to{m:aN→Option aN}{s t:ByteArray}(h:Ap m s)(e:s=t):Ap m t:=e▸h
theorem Ap.nil:Ap some ByteArray.empty:=fun b _ _=>by rw[ByteArray.append_empty]
theorem Ap.of{m k:aN→Option aN}{s:ByteArray}(h:Ap k s)(e:∀b,b.wF=true→m b=k b):Ap m s:=fun b hb hs=>by rw[e b hb];exact h b hb hs
theorem Ap.loop{α:Type}(f:α→List Lf)(l:List α)(g:α→aN→Option aN)(T:Int×aN→Option ((Int×aN)⊕aN))(hl:l.length≤1000000000)
 (hg:∀x∈l,Ap (g x) (wrL (f x)))
 (hT:∀(k:Nat) s,(∀x,l[k]?=some x→T ((k:Int),s)=(g x s).bind fun r=>some (.inl (IntKind.wrap .i64 ((k:Int)+1),r)))∧(l[k]?=none→T ((k:Int),s)=some (.inr s))):
 Ap (fun b=>bW T FU (0,b)) (wrQ (l.map f)):=by
 intro b hb hs
 have key:∀(m:List α) (k:Nat) (b:aN) (n:Nat),l.drop k=m→m.length<n→b.wF=true→b.fS.size+(wrQ (m.map f)).size≤4611686018427387904→
  bW T n ((k:Int),b)=some ⟨b.fS++wrQ (m.map f),b.BX,b.wF⟩:=by
  intro m
  induction m with
  |nil=>
   intro k b n hd hn hb hs
   obtain⟨n,rfl⟩:∃j,n=j+1:=⟨n-1,by simp at hn;omega⟩
   have h1:l[k]?=none:=by
    have:=congrArg List.length hd
    simp only[List.length_drop,List.length_nil] at this
    rw[List.getElem?_eq_none];omega
   unfold bW
   rw[(hT k b).2 h1]
   simp only[List.map_nil,wrQ,ByteArray.append_empty,Option.bind_some]
  |cons x m ih=>
   intro k b n hd hn hb hs
   obtain⟨n,rfl⟩:∃j,n=j+1:=⟨n-1,by simp at hn;omega⟩
   have h1:l[k]?=some x:=by rw[←List.head?_drop,hd];rfl
   have h2:l.drop (k+1)=m:=by rw[←List.tail_drop,hd];rfl
   have hk:k<l.length:=(List.getElem?_eq_some_iff.1 h1).1
   simp only[List.map_cons,wrQ,ByteArray.size_append] at hs
   unfold bW
   rw[(hT k b).1 x h1,hg x (List.mem_of_getElem? h1) b hb (by omega)]
   simp only[Option.bind_some]
   rw[inc k (by omega)]
   refine(ih (k+1) ⟨b.fS++wrL (f x),b.BX,b.wF⟩ n h2 (by simp at hn;omega) hb (by simp only[ByteArray.size_append];omega)).trans ?_
   simp only[List.map_cons,wrQ,ByteArray.append_assoc]
 exact key l 0 b FU rfl (Jf (by omega)) hb hs
theorem jc(n:Int):Ap (Q16 n) (DZ n):=by
 intro b _ hs
 unfold Q16 apC
 simp only[Mo.den,ay,aB,ae6,Option.bind_some]
 rw[if_pos (by omega)]
theorem Bd(s:ByteArray):Ap (Q66 s) (DZ (s.size:Int)++s):=by
 intro b hb hs
 rw[ByteArray.size_append] at hs
 unfold Q66 apD
 simp only[Mo.den,ay,aB]
 rw[jc _ b hb (by omega)]
 simp only[Option.bind_some,ByteArray.size_append]
 rw[if_pos (by omega)]
 simp only[ByteArray.append_assoc]
theorem rE(c:Bool):Ap (Q76 c) (wrF (.bool c)):=by
 intro b hb hs
 unfold Q76 apI
 simp only[Mo.den,ay,aA,aB,ae7]
 cases c
 ·simp only[wrF,cond_false,Bool.false_eq_true,if_false,ae7] at hs ⊢;rw[if_pos (by omega)]
 ·simp only[wrF,cond_true,if_true,ae7] at hs ⊢;rw[if_pos (by omega)]
theorem gy{α:Type}(l:List α)(k:Nat):(∀x,l[k]?=some x→decide ((k:Int)<(l.length:Int))=true∧lG l (k:Int)=some x)∧(l[k]?=none→decide ((k:Int)<(l.length:Int))=false):=by
 refine⟨fun x h=>?_,fun h=>?_⟩
 ·have:=(List.getElem?_eq_some_iff.1 h).1
  exact⟨iLt this,by rw[Je,h]⟩
 ·rw[List.getElem?_eq_none_iff] at h
  exact afF (by omega)
theorem Ap.of'{m k:aN→Option aN}{s t:ByteArray}(e:∀b,b.wF=true→m b=k b)(h:Ap k s)(hs:s=t):Ap m t:=hs▸Ap.of h e
theorem D5(l:List ByteArray)(hl:l.length≤1000000000):Ap (Q48 l) (wrF (.rows 1 (l.map lfS))):=by
 have hL:Ap (ab3 l 0) (wrQ (l.map lfS)):=by
  refine Ap.of' (fun b hb=>by unfold ab3;rfl) (Ap.loop lfS l Q66 _ hl (fun x _=>(Bd x).to (by simp only[lfS,wrL,wrF,ByteArray.append_empty])) fun k s=>⟨fun x h=>?_,fun h=>?_⟩) rfl
  ·obtain⟨h1,h2⟩:=(gy l k).1 x h
   simp only[Dp,Mo.den,ay,aA,h1,h2,cond_true,Option.bind_some]
  ·simp only[Dp,Mo.den,ay,aA,(gy l k).2 h,cond_false]
 refine Ap.of' (fun b hb=>?_) (Ap.bind (jc (l.length:Int)) (Ap.bind hL Ap.nil)) ?_
 ·simp only[Q48,apH,Mo.den,ay]
 ·simp only[wrF,List.length_map,ByteArray.append_empty]
end Go.Proofs.YtflpefkohpjjpaaGreatDoor
set_option linter.unusedSimpArgs false
set_option linter.unusedVariables false
namespace Go.Proofs.YtflpefkohpjjpaaGreatDoor
open Go.RowKit
theorem alp(x:dQ)(hb:aT x.lf1≤100000000):Ap (Q73 x) (wrL x.lf1):=by
 have hl:=vO x.bF
 rw[qM] at hb
 have hL:Ap (ab4 x 0) (wrQ (x.bF.map cu.lf)):=by
  refine Ap.of' (fun b hb=>by unfold ab4;rfl) (Ap.loop cu.lf x.bF (fun p b=>(Q16 p.fX b).bind fun r=>Q16 p.fY r) _ (by omega) (fun x hx=>(Ap.bind (jc _) (jc _)).to (by simp only[cu.lf,cu.lf1,wrL,wrF,ByteArray.append_empty])) fun k s=>⟨fun y h=>?_,fun h=>?_⟩) rfl
  ·obtain⟨h1,h2⟩:=(gy x.bF k).1 y h
   simp only[Dq,Mo.den,ay,aA,h1,h2,cond_true,Option.bind_some,Option.bind_assoc]
  ·simp only[Dq,Mo.den,ay,aA,(gy x.bF k).2 h,cond_false]
 refine Ap.of' (fun b hb=>?_) (Ap.bind (jc (x.aF)) (Ap.bind (jc ((x.bF.length:Int))) (Ap.bind hL (Ap.bind (jc (x.fR)) Ap.nil)))) ?_
 ·simp only[Q73,apJ,Mo.den,ay,aA]
 ·simp only[dQ.lf1,wrL,wrF,List.length_map,ByteArray.append_empty,ByteArray.append_assoc]
theorem VN:∀n,(∀v:ah,2*aT v.lf1<n→aT v.lf1≤100000000→Ap ((mJ n).m1 v) (wrL v.lf1))∧∀l:List ah,2*dH (l.map ah.lf)+1<n→dH (l.map ah.lf)≤100000000→Ap ((mJ n).m2 l) (wrF (.rows 5 (l.map ah.lf)))
 |0=>⟨fun v h=>by omega,fun l h=>by omega⟩
 |n+1=>by
  have ih:=VN n
  refine⟨fun x h hb=>?_,fun l h hb=>?_⟩
  ·have hl:=iQ x.aU
   rw[dW] at h hb
   have hL:Ap (ab1 (mJ n) x 0) (wrQ (x.aU.map aJ.lf)):=by
    refine Ap.of' (fun b hb=>by unfold ab1;rfl) (Ap.loop aJ.lf x.aU (fun p b=>(Q66 p.fName b).bind fun r=>(mJ n).m1 p.fValue r) _ (by omega) (fun x hx=>by have h1:=iC hx;rw[fV] at h1;exact(Ap.bind (Bd _) (ih.1 _ (by omega) (by omega))).to (by rw[aJ.bf];simp only[aJ.lf1,vT,wrL,wrF,ByteArray.append_empty])) fun k s=>⟨fun y h=>?_,fun h=>?_⟩) rfl
    ·obtain⟨h1,h2⟩:=(gy x.aU k).1 y h
     simp only[Dl,Mo.den,ay,aA,h1,h2,cond_true,Option.bind_some,Option.bind_assoc]
    ·simp only[Dl,Mo.den,ay,aA,(gy x.aU k).2 h,cond_false]
   refine Ap.of' (fun b hr=>?_) (Ap.bind (jc (x.aF)) (Ap.bind (jc (x.fA)) (Ap.bind (Bd (x.fText)) (Ap.bind (ih.2 x.aW (by omega) (by omega)) (Ap.bind (jc ((x.aU.length:Int))) (Ap.bind hL Ap.nil)))))) ?_
   ·simp only[mJ,aj2,Mo.den,ay,aA,hr,cond_true]
   ·simp only[ah.lf1,wrL,wrF,List.length_map,ByteArray.append_empty,ByteArray.append_assoc]
  ·have hl:=jf l
   have hL:Ap (ab2 (mJ n) l 0) (wrQ (l.map ah.lf)):=by
    refine Ap.of' (fun b hb=>by unfold ab2;rfl) (Ap.loop ah.lf l (fun p b=>(mJ n).m1 p b) _ (by omega) (fun x hx=>by have h1:=jK hx;exact(ih.1 _ (by omega) (by omega)).to (by rw[ah.bf])) fun k s=>⟨fun y h=>?_,fun h=>?_⟩) rfl
    ·obtain⟨h1,h2⟩:=(gy l k).1 y h
     simp only[Dn,Mo.den,ay,aA,h1,h2,cond_true,Option.bind_some,Option.bind_assoc]
    ·simp only[Dn,Mo.den,ay,aA,(gy l k).2 h,cond_false]
   refine Ap.of' (fun b hr=>?_) (Ap.bind (jc ((l.length:Int))) (Ap.bind hL Ap.nil)) ?_
   ·simp only[mJ,aj3,Mo.den,ay,aA]
   ·simp only[wrF,List.length_map,ByteArray.append_empty]
theorem D6(v:ah)(hb:aT v.lf1≤100000000):Ap (Q37 v) (wrL v.lf1):=(VN FU).1 v (Jf (by omega)) hb
theorem Rx(l:List ah)(hb:dH (l.map ah.lf)≤100000000):Ap (Q53 l) (wrF (.rows 5 (l.map ah.lf))):=(VN FU).2 l (Jf (by omega)) hb
theorem alq(n:Nat):∀x:aP,aT x.lf1<n→aT x.lf1≤100000000→Ap ((xH n).m1 x) (wrL x.lf1):=by
 induction n with
 |zero=>intro x h _;omega
 |succ n ih=>
  intro x h hb
  have hl:=uq x.bC
  have hl1:=iy x.cO
  have hl2:=iy x.eP
  rw[jP] at h hb
  have hL:Ap (ab5 (xH n) x 0) (wrQ (x.bC.map aP.lf)):=by
   refine Ap.of' (fun b hb=>by unfold ab5;rfl) (Ap.loop aP.lf x.bC (fun p b=>(xH n).m1 p b) _ (by omega) (fun x hx=>by have h1:=DX hx;exact(ih _ (by omega) (by omega)).to (by rw[aP.bf])) fun k s=>⟨fun y h=>?_,fun h=>?_⟩) rfl
   ·obtain⟨h1,h2⟩:=(gy x.bC k).1 y h
    simp only[Dt,Mo.den,ay,aA,h1,h2,cond_true,Option.bind_some,Option.bind_assoc]
   ·simp only[Dt,Mo.den,ay,aA,(gy x.bC k).2 h,cond_false]
  refine Ap.of' (fun b hr=>?_) (Ap.bind (jc (x.fOp)) (Ap.bind (D5 (x.cO) (by omega)) (Ap.bind (Bd (x.fName)) (Ap.bind (D5 (x.eP) (by omega)) (Ap.bind (D6 (x.fArg) (by omega)) (Ap.bind (jc (x.fN)) (Ap.bind (jc ((x.bC.length:Int))) (Ap.bind hL Ap.nil)))))))) ?_
  ·simp only[xH,aj8,Mo.den,ay,aA]
  ·simp only[aP.lf1,vT,wrL,wrF,List.length_map,ByteArray.append_empty,ByteArray.append_assoc]
theorem ape(v:aP)(hb:aT v.lf1≤100000000):Ap (Q60 v) (wrL v.lf1):=alq FU v (Jf (by omega)) hb
theorem alr(n:Nat):∀x:aO,aT x.lf1<n→aT x.lf1≤100000000→Ap ((xI n).m1 x) (wrL x.lf1):=by
 induction n with
 |zero=>intro x h _;omega
 |succ n ih=>
  intro x h hb
  have hl:=oL x.bC
  have hl1:=iy x.cO
  rw[iw] at h hb
  have hL:Ap (ab6 (xI n) x 0) (wrQ (x.bC.map aO.lf)):=by
   refine Ap.of' (fun b hb=>by unfold ab6;rfl) (Ap.loop aO.lf x.bC (fun p b=>(xI n).m1 p b) _ (by omega) (fun x hx=>by have h1:=uw hx;exact(ih _ (by omega) (by omega)).to (by rw[aO.bf])) fun k s=>⟨fun y h=>?_,fun h=>?_⟩) rfl
   ·obtain⟨h1,h2⟩:=(gy x.bC k).1 y h
    simp only[Du,Mo.den,ay,aA,h1,h2,cond_true,Option.bind_some,Option.bind_assoc]
   ·simp only[Du,Mo.den,ay,aA,(gy x.bC k).2 h,cond_false]
  refine Ap.of' (fun b hr=>?_) (Ap.bind (jc (x.fOp)) (Ap.bind (D5 (x.cO) (by omega)) (Ap.bind (D6 (x.fArg) (by omega)) (Ap.bind (Rx (x.fArgs) (by omega)) (Ap.bind (jc (x.fN)) (Ap.bind (jc (x.fM)) (Ap.bind (alp (x.dY) (by omega)) (Ap.bind (ape (x.fExpr) (by omega)) (Ap.bind (jc ((x.bC.length:Int))) (Ap.bind hL Ap.nil)))))))))) ?_
  ·simp only[xI,akb,Mo.den,ay,aA]
  ·simp only[aO.lf1,vT,wrL,wrF,List.length_map,ByteArray.append_empty,ByteArray.append_assoc]
theorem apf(v:aO)(hb:aT v.lf1≤100000000):Ap (Q67 v) (wrL v.lf1):=alr FU v (Jf (by omega)) hb
theorem Lp(x:aQ)(hb:aT x.lf1≤100000000):Ap (Q49 x) (wrL x.lf1):=by
 have hl:=ny x.gq
 rw[jX] at hb
 have hL:Ap (ab7 x 0) (wrQ (x.gq.map bn.lf)):=by
  refine Ap.of' (fun b hb=>by unfold ab7;rfl) (Ap.loop bn.lf x.gq (fun p b=>(Q48 p.cO b).bind fun r=>Q76 p.NI r) _ (by omega) (fun x hx=>by have h1:=zq hx;rw[oJ] at h1;have h2:=iy x.cO;exact(Ap.bind (D5 _ (by omega)) (rE _)).to (by simp only[bn.lf,bn.lf1,wrL,ByteArray.append_empty])) fun k s=>⟨fun y h=>?_,fun h=>?_⟩) rfl
  ·obtain⟨h1,h2⟩:=(gy x.gq k).1 y h
   simp only[Dv,Mo.den,ay,aA,h1,h2,cond_true,Option.bind_some,Option.bind_assoc]
  ·simp only[Dv,Mo.den,ay,aA,(gy x.gq k).2 h,cond_false]
 refine Ap.of' (fun b hb=>?_) (Ap.bind (Bd (x.fName)) (Ap.bind (jc (x.aF)) (Ap.bind (jc ((x.gq.length:Int))) (Ap.bind hL (Ap.bind (rE (x.gB)) (Ap.bind (rE (x.lF)) (Ap.bind (rE (x.jr)) (Ap.bind (apf (x.bG) (by omega)) Ap.nil)))))))) ?_
 ·simp only[Q49,apK,Mo.den,ay,aA]
 ·simp only[aQ.lf1,vT,wrL,wrF,List.length_map,ByteArray.append_empty,ByteArray.append_assoc]
theorem acB(n:Nat):∀x:aI,aT x.lf1<n→aT x.lf1≤100000000→Ap ((sF n).m1 x) (wrL x.lf1):=by
 induction n with
 |zero=>intro x h _;omega
 |succ n ih=>
  intro x h hb
  have hl:=l7 x.dD
  have hl1:=nJ x.eU
  have hl2:=iy x.dZ
  rw[gK] at h hb
  have hL:Ap (ab9 (sF n) x 0) (wrQ (x.dD.map bH.lf)):=by
   refine Ap.of' (fun b hb=>by unfold ab9;rfl) (Ap.loop bH.lf x.dD (fun p b=>(Q66 p.fName b).bind fun r=>(sF n).m1 p.aZ r) _ (by omega) (fun x hx=>by have h1:=DY hx;rw[uo] at h1;exact(Ap.bind (Bd _) (ih _ (by omega) (by omega))).to (by rw[bH.bf];simp only[bH.lf1,vT,wrL,wrF,ByteArray.append_empty])) fun k s=>⟨fun y h=>?_,fun h=>?_⟩) rfl
   ·obtain⟨h1,h2⟩:=(gy x.dD k).1 y h
    simp only[Dw,Mo.den,ay,aA,h1,h2,cond_true,Option.bind_some,Option.bind_assoc]
   ·simp only[Dw,Mo.den,ay,aA,(gy x.dD k).2 h,cond_false]
  have hL2:Ap (acd (sF n) x 0) (wrQ (x.eU.map aI.lf)):=by
   refine Ap.of' (fun b hb=>by unfold acd;rfl) (Ap.loop aI.lf x.eU (fun p b=>(sF n).m1 p b) _ (by omega) (fun x hx=>by have h1:=vP hx;exact(ih _ (by omega) (by omega)).to (by rw[aI.bf])) fun k s=>⟨fun y h=>?_,fun h=>?_⟩) rfl
   ·obtain⟨h1,h2⟩:=(gy x.eU k).1 y h
    simp only[Dx,Mo.den,ay,aA,h1,h2,cond_true,Option.bind_some,Option.bind_assoc]
   ·simp only[Dx,Mo.den,ay,aA,(gy x.eU k).2 h,cond_false]
  refine Ap.of' (fun b hr=>?_) (Ap.bind (jc (x.iZ)) (Ap.bind (rE (x.jE)) (Ap.bind (D6 (x.kT) (by omega)) (Ap.bind (rE (x.jF)) (Ap.bind (D6 (x.kU) (by omega)) (Ap.bind (Rx (x.iV) (by omega)) (Ap.bind (jc (x.jQ)) (Ap.bind (jc (x.jR)) (Ap.bind (D5 (x.dZ) (by omega)) (Ap.bind (jc ((x.dD.length:Int))) (Ap.bind hL (Ap.bind (rE (x.lX)) (Ap.bind (jc ((x.eU.length:Int))) (Ap.bind hL2 (Ap.bind (rE (x.gB)) Ap.nil))))))))))))))) ?_
  ·simp only[sF,akc,Mo.den,ay,aA]
  ·simp only[aI.lf1,vT,wrL,wrF,List.length_map,ByteArray.append_empty,ByteArray.append_assoc]
theorem agR(v:aI)(hb:aT v.lf1≤100000000):Ap (Q32 v) (wrL v.lf1):=acB FU v (Jf (by omega)) hb
theorem ZA(x:bU)(hb:aT x.lf1≤100000000):Ap (Q56 x) (wrL x.lf1):=by
 have hl:=kJ x.bM
 rw[oK] at hb
 have hL:Ap (ace x 0) (wrQ (x.bM.map aQ.lf)):=by
  refine Ap.of' (fun b hb=>by unfold ace;rfl) (Ap.loop aQ.lf x.bM (fun p b=>Q49 p b) _ (by omega) (fun x hx=>by have h1:=Gi hx;exact Lp _ (by omega)) fun k s=>⟨fun y h=>?_,fun h=>?_⟩) rfl
  ·obtain⟨h1,h2⟩:=(gy x.bM k).1 y h
   simp only[Dy,Mo.den,ay,aA,h1,h2,cond_true,Option.bind_some,Option.bind_assoc]
  ·simp only[Dy,Mo.den,ay,aA,(gy x.bM k).2 h,cond_false]
 refine Ap.of' (fun b hb=>?_) (Ap.bind (Bd (x.fName)) (Ap.bind (jc ((x.bM.length:Int))) (Ap.bind hL (Ap.bind (agR (x.aZ) (by omega)) (Ap.bind (jc (x.lg)) (Ap.bind (jc (x.jo)) Ap.nil)))))) ?_
 ·simp only[Q56,apL,Mo.den,ay,aA]
 ·simp only[bU.lf1,vT,wrL,wrF,List.length_map,ByteArray.append_empty,ByteArray.append_assoc]
end Go.Proofs.YtflpefkohpjjpaaGreatDoor
set_option linter.unusedSimpArgs false
set_option linter.unusedVariables false
namespace Go.Proofs.YtflpefkohpjjpaaGreatDoor
open Go.RowKit
theorem gW:1152921504606846975<FU:=by unfold FU;omega
def Tot{ρ:Type}(m:Option ρ)(Q:ρ→Prop):Prop:=∃r,m=some r∧Q r
def LP{σ ρ:Type}(P:σ→Prop)(Q:ρ→Prop):σ⊕ρ→Prop
 |.inl s=>P s
 |.inr r=>Q r
def Any{ρ:Type}:ρ→Prop:=fun _=>True
namespace T
variable {ρ α σ:Type}
theorem ret{Q:ρ→Prop}{r:ρ}(h:Q r):Tot (some r) Q:=⟨r,rfl,h⟩
theorem any{r:ρ}:Tot (some r) Any:=⟨r,rfl,trivial⟩
theorem bind{m:Option α}{R:α→Prop}{k:α→Option ρ}{Q:ρ→Prop}(h:Tot m R)(h2:∀a,R a→Tot (k a) Q):Tot (m.bind k) Q:=by
 obtain⟨a,rfl,ha⟩:=h
 exact h2 a ha
theorem ite{b:Bool}{x y:Option ρ}{Q:ρ→Prop}(h1:b=true→Tot x Q)(h2:b=false→Tot y Q):Tot (bif b then x else y) Q:=by
 cases b
 ·exact h2 rfl
 ·exact h1 rfl
theorem grd{p:Prop}[Decidable p]{x:Option ρ}{Q:ρ→Prop}(h:p)(h2:Tot x Q):Tot (if p then x else none) Q:=by
 rw[if_pos h];exact h2
theorem mono{m:Option ρ}{Q R:ρ→Prop}(h:Tot m Q)(h2:∀r,Q r→R r):Tot m R:=by
 obtain⟨r,h1,h3⟩:=h;exact⟨r,h1,h2 r h3⟩
theorem wk{m:Option ρ}{Q:ρ→Prop}(h:Tot m Q):Tot m Any:=mono h fun _ _=>trivial
theorem val{m:Option ρ}{r:ρ}(h:m=some r):Tot m (fun x=>x=r):=⟨r,h,rfl⟩
theorem qA{T:σ→Option (σ⊕ρ)}{s0:σ}(n:Nat)(hn:n≤1000000000)(P:Nat→σ→Prop)(Q:ρ→Prop)(h0:P 0 s0)(step:∀k s,k<n→P k s→Tot (T s) (LP (P (k+1)) Q))(fin:∀s,P n s→Tot (T s) (LP (fun _=>False) Q)):Tot (bW T FU s0) Q:=by
 refine Jg n hn P Q h0 ?_ ?_
 ·intro k s hk hP
  obtain⟨r,h1,h2⟩:=step k s hk hP
  rcases r with v|r
  ·exact .inl ⟨v,h1,h2⟩
  ·exact .inr ⟨r,h1,h2⟩
 ·intro s hP
  obtain⟨r,h1,h2⟩:=fin s hP
  rcases r with v|r
  ·exact h2.elim
  ·exact⟨r,h1,h2⟩
end T
theorem ltt{α:Type}{l:List α}{k:Nat}{x:α}(h:l[k]?=some x):decide ((k:Int)<(l.length:Int))=true:=iLt (List.getElem?_eq_some_iff.1 h).1
theorem ltn(n:Nat):decide ((n:Int)<(n:Int))=false:=afF (Nat.lt_irrefl _)
theorem gid{α:Type}{l:List α}{k:Nat}{x:α}(h:l[k]?=some x):lG l (k:Int)=some x:=by rw[Je,h]
theorem iR{α:Type}{l:List α}{k:Nat}{x:α}(h:l[k]?=some x):x∈l:=List.mem_of_getElem? h
theorem oM{α:Type}{l:List α}{k:Nat}{x:α}(h:l[k]?=some x):k<l.length:=(List.getElem?_eq_some_iff.1 h).1
theorem agS(l m:List (List Lf)):dH (l++m)=dH l+dH m:=by
 induction l with
 |nil=>simp[dH]
 |cons x l ih=>simp only[List.cons_append,dH,ih];omega
theorem mX{α:Type}(f:α→List Lf)(l:List α)(k:Nat):dH ((l.take k).map f)≤dH (l.map f):=by
 have:=agS ((l.take k).map f) ((l.drop k).map f)
 rw[←List.map_append,List.take_append_drop] at this;omega
def MT{ρ:Type}(t:Mo ρ)(Q:ρ→Prop):Prop:=Tot t.den Q
namespace MT
variable {ρ α β γ:Type}
theorem ret{f:Fit}{r:ρ}{Q:ρ→Prop}(h:Q r):MT (.ret f r) Q:=⟨r,rfl,h⟩
theorem any{f:Fit}{r:ρ}:MT (.ret f r) Any:=⟨r,rfl,trivial⟩
theorem say{qs:List Ans}{Φ:List Prop}{ok:fC Φ}{k:Mo ρ}{Q:ρ→Prop}(h:MT k Q):MT (.say qs ok k) Q:=h
theorem ite{b:Bool}{t:b=true→Mo ρ}{e:b=false→Mo ρ}{Q:ρ→Prop}(h1:∀h,MT (t h) Q)(h2:∀h,MT (e h) Q):MT (.ite b t e) Q:=by
 cases b
 ·exact h2 rfl
 ·exact h1 rfl
theorem grd{p:Prop}[d:Decidable p]{k:p→Mo ρ}{Q:ρ→Prop}(h:p)(h2:∀h,MT (k h) Q):MT (.grd p k) Q:=by
 unfold MT Tot
 show ∃r,NK p _=some r∧Q r
 unfold NK
 cases d with
 |isTrue hh=>exact h2 hh
 |isFalse hh=>exact absurd h hh
theorem ask{m:Option α}{k:(a:α)→m=some a→Mo ρ}{R:α→Prop}{Q:ρ→Prop}(h:Tot m R)(h2:∀a h,R a→MT (k a h) Q):MT (.ask m k) Q:=by
 obtain⟨a,rfl,ha⟩:=h
 exact h2 a rfl ha
theorem kM{m:Option (α⊕β)}{k1:(a:α)→m=some (.inl a)→Mo ρ}{k2:(b:β)→m=some (.inr b)→Mo ρ}{R:α⊕β→Prop}{Q:ρ→Prop}(h:Tot m R)(h1:∀a h,R (.inl a)→MT (k1 a h) Q)(h2:∀b h,R (.inr b)→MT (k2 b h) Q):MT (.kM m k1 k2) Q:=by
 obtain⟨a,rfl,ha⟩:=h
 rcases a with a|a
 ·exact h1 a rfl ha
 ·exact h2 a rfl ha
theorem afD{m:Option (α⊕β⊕γ)}{k1:(a:α)→m=some (.inl a)→Mo ρ}{k2:(b:β)→m=some (.inr (.inl b))→Mo ρ}{k3:(c:γ)→m=some (.inr (.inr c))→Mo ρ}{R:α⊕β⊕γ→Prop}{Q:ρ→Prop}(h:Tot m R)(h1:∀a h,R (.inl a)→MT (k1 a h) Q)(h2:∀b h,R (.inr (.inl b))→MT (k2 b h) Q)(h3:∀b h,R (.inr (.inr b))→MT (k3 b h) Q):MT (.afD m k1 k2 k3) Q:=by
 obtain⟨a,rfl,ha⟩:=h
 rcases a with a|a|a
 ·exact h1 a rfl ha
 ·exact h2 a rfl ha
 ·exact h3 a rfl ha
end MT
structure Clo {ρ:Type} (m:Option ρ):Prop where
 h:Tot m Any
namespace MT
variable {ρ α β γ:Type}
theorem lQ{m:Option α}{k:(a:α)→m=some a→Mo ρ}{Q:ρ→Prop}(h:Clo m)(h2:∀a h,MT (k a h) Q):MT (.ask m k) Q:=ask h.h fun a h _=>h2 a h
theorem ap6{m:Option (α⊕β)}{k1:(a:α)→m=some (.inl a)→Mo ρ}{k2:(b:β)→m=some (.inr b)→Mo ρ}{Q:ρ→Prop}(h:Clo m)(h1:∀a h,MT (k1 a h) Q)(h2:∀b h,MT (k2 b h) Q):MT (.kM m k1 k2) Q:=kM h.h (fun a h _=>h1 a h) (fun a h _=>h2 a h)
end MT
theorem fE{α:Type}(l:List α)(i:Int)(h0:0≤i)(h1:i<l.length):Tot (lG l i) (fun x=>x∈l):=by
 obtain⟨x,h2,h3⟩:=amn h0 h1
 exact⟨x,h2,List.mem_of_getElem? h3⟩
namespace T
variable {ρ σ:Type}
theorem apg{T:σ→Option (σ⊕ρ)}{s0:σ}(c:σ→Int)(P:σ→Prop)(Q:ρ→Prop)(h0:c s0=0)(hP:P s0)(step:∀(k:Nat) s,k≤100000000→c s=k→P s→Tot (T s) (LP (fun v=>c v=IntKind.wrap .i64 ((k:Int)+1)∧P v∧k<100000000) Q)):Tot (bW T FU s0) Q:=by
 refine uU (fun s=>0≤c s∧c s≤100000000∧P s) (fun s=>100000000-(c s).toNat) Q ?_ FU s0 ⟨by omega,by omega,hP⟩ (by have:=gW;omega)
 rintro s ⟨h1,h2,h3⟩
 obtain⟨r,h4,h5⟩:=step (c s).toNat s (by omega) (by omega) h3
 rcases r with v|r
 ·have h5:c v=IntKind.wrap .i64 (((c s).toNat:Int)+1)∧P v∧(c s).toNat<100000000:=h5
  have h6:=h5.1
  rw[inc _ (by omega)] at h6
  exact .inl ⟨v,h4,⟨by omega,by omega,h5.2.1⟩,by omega⟩
 ·exact .inr ⟨r,h4,h5⟩
theorem cnt{T:Int→Option (Int⊕ρ)}(Q:ρ→Prop)(step:∀k:Nat,k≤100000000→Tot (T (k:Int)) (LP (fun v=>v=IntKind.wrap .i64 ((k:Int)+1)∧k<100000000) Q)):Tot (bW T FU 0) Q:=
 apg (fun v=>v) (fun _=>True) Q rfl trivial fun k s hk hs _=>by
  obtain rfl:s=(k:Int):=hs
  refine mono (step k hk) ?_
  rintro(v|r) h
  ·exact⟨h.1,trivial,h.2⟩
  ·exact h
theorem auP{α:Type}{T:α×Int→Option ((α×Int)⊕ρ)}{a:α}(Q:ρ→Prop)(step:∀(a:α) (k:Nat),k≤100000000→Tot (T (a,(k:Int))) (LP (fun v=>v.2=IntKind.wrap .i64 ((k:Int)+1)∧k<100000000) Q)):Tot (bW T FU (a,0)) Q:=
 apg (fun v=>v.2) (fun _=>True) Q rfl trivial fun k s hk hs _=>by
  obtain⟨a,i⟩:=s
  obtain rfl:i=(k:Int):=hs
  refine mono (step a k hk) ?_
  rintro(v|r) h
  ·exact⟨h.1,trivial,h.2⟩
  ·exact h
theorem MV{α:Type}{T:Int×α→Option ((Int×α)⊕ρ)}{a:α}(Q:ρ→Prop)(step:∀(k:Nat) (a:α),k≤100000000→Tot (T ((k:Int),a)) (LP (fun v=>v.1=IntKind.wrap .i64 ((k:Int)+1)∧k<100000000) Q)):Tot (bW T FU (0,a)) Q:=
 apg (fun v=>v.1) (fun _=>True) Q rfl trivial fun k s hk hs _=>by
  obtain⟨i,a⟩:=s
  obtain rfl:i=(k:Int):=hs
  refine mono (step k a hk) ?_
  rintro(v|r) h
  ·exact⟨h.1,trivial,h.2⟩
  ·exact h
end T
end Go.Proofs.YtflpefkohpjjpaaGreatDoor
set_option linter.unusedSimpArgs false
set_option linter.unusedVariables false
namespace Go.Proofs.YtflpefkohpjjpaaGreatDoor
open Go.RowKit
theorem qN(s:ByteArray):Q59 s=some (nameB s):=by
 unfold Q59 apG Qa P9 P8 kD kC
 simp only[Mo.den,ay,ak,au,aA,aB]
 by_cases h0:s.size<1
 ·rw[decide_eq_true (show(s.size:Int)<1 by omega),EL s (by omega)];rfl
 rw[decide_eq_false (show ¬(s.size:Int)<1 by omega)];simp only[cond_false,Option.bind_some]
 by_cases h1:32<s.size
 ·rw[decide_eq_true (show(32:Int)<(s.size:Int) by omega),EK s h1];rfl
 rw[decide_eq_false (show ¬(32:Int)<(s.size:Int) by omega)];simp only[cond_false]
 have hz:kN s 0=some s[0]:=og s 0 (by omega)
 rw[hz,uT s (by omega) (by omega)]
 simp only[Option.bind_some]
 have e36:((s[0].toNat:Int)==36)=(s[0].toNat==36):=by rw[Bool.eq_iff_iff];simp;omega
 rw[e36]
 cases hq:s[0].toNat==36 with
 |true=>rfl
 |false=>
  simp only[cond_false,Bool.not_false,Bool.true_and]
  refine Xe s.size (by omega) (fun n k=>k=n∧∀i (hi:i<s.size),i<n→mD s[i].toNat=true) (fun r=>match r with|.inl _=>s.data.toList.all (fun c=>mD c.toNat)=false|.inr _=>s.data.toList.all (fun c=>mD c.toNat)=true) ⟨rfl,by omega⟩ ?_ ?_ ?_
  ·rintro n k hn ⟨rfl,hv⟩
   simp only[iLt hn,cond_true,og s n hn,Option.bind_some]
   have hc:mD s[n].toNat=(decide (33≤s[n].toNat)&&decide (s[n].toNat≤126)&&!(s[n].toNat==46)):=rfl
   have e46:((s[n].toNat:Int)==46)=(s[n].toNat==46):=by rw[Bool.eq_iff_iff];simp;omega
   by_cases a1:s[n].toNat<33
   ·rw[decide_eq_true (show(s[n].toNat:Int)<33 by omega)];right
    exact⟨_,rfl,rX s _ n hn (by rw[hc,decide_eq_false (show ¬33≤s[n].toNat by omega)];rfl)⟩
   rw[decide_eq_false (show ¬(s[n].toNat:Int)<33 by omega)];simp only[cond_false]
   by_cases a2:126<s[n].toNat
   ·rw[decide_eq_true (show(126:Int)<(s[n].toNat:Int) by omega)];right
    exact⟨_,rfl,rX s _ n hn (by rw[hc,decide_eq_false (show ¬s[n].toNat≤126 by omega),Bool.and_false];rfl)⟩
   rw[decide_eq_false (show ¬(126:Int)<(s[n].toNat:Int) by omega),e46];simp only[cond_false,Option.bind_some]
   cases a3:s[n].toNat==46 with
   |true=>right;exact⟨_,rfl,rX s _ n hn (by rw[hc,a3,Bool.not_true,Bool.and_false])⟩
   |false=>
    left
    refine⟨_,rfl,inc n (by omega),fun i hi hl=>?_⟩
    rcases Nat.lt_succ_iff_lt_or_eq.1 hl with h3|rfl
    ·exact hv i hi h3
    ·rw[hc,a3,decide_eq_true (show 33≤s[i].toNat by omega),decide_eq_true (show s[i].toNat≤126 by omega)];rfl
  ·rintro k ⟨rfl,hv⟩
   exact⟨.inr (),by simp only[afF (Nat.lt_irrefl _),cond_false],Ih s _ fun i hi=>hv i hi hi⟩
  ·rintro(u|u) h2
   ·exact congrArg some h2.symm
   ·exact congrArg some h2.symm
def rF(p:List ByteArray):Bool:=decide (1≤p.length)&&decide (p.length≤16)&&p.all nameB
theorem xO{α:Type}(f:α→Bool){l:List α}{k:Nat}{x:α}(h:l[k]?=some x):(l.take (k+1)).all f=((l.take k).all f&&f x):=by
 have hk:=oM h
 have:l[k]=x:=by rw[List.getElem?_eq_getElem hk] at h;injection h
 rw[List.take_succ_eq_append_getElem hk,List.all_append,this];simp
theorem VO{α:Type}(f:α→Bool){l:List α}{k:Nat}{x:α}(h:l[k]?=some x)(hf:f x=false):l.all f=false:=by
 rw[List.all_eq_false];exact⟨x,iR h,by simp[hf]⟩
theorem D7(p:List ByteArray):Q86 p=some (rF p):=by
 unfold Q86 apO Yy Yx
 simp only[Mo.den,ay,ak,au,aA,aB,rF]
 by_cases h0:p.length<1
 ·rw[decide_eq_true (show(p.length:Int)<1 by omega),decide_eq_false (show ¬1≤p.length by omega)];rfl
 rw[decide_eq_false (show ¬(p.length:Int)<1 by omega),decide_eq_true (show 1≤p.length by omega)];simp only[cond_false,Option.bind_some,Bool.true_and]
 by_cases h1:16<p.length
 ·rw[decide_eq_true (show(16:Int)<(p.length:Int) by omega),decide_eq_false (show ¬p.length≤16 by omega)];rfl
 rw[decide_eq_false (show ¬(16:Int)<(p.length:Int) by omega),decide_eq_true (show p.length≤16 by omega)];simp only[cond_false,Bool.true_and]
 refine Xe p.length (by omega) (fun n k=>k=n∧(p.take n).all nameB=true) (fun r=>match r with|.inl _=>p.all nameB=false|.inr _=>p.all nameB=true) ⟨rfl,by simp⟩ ?_ ?_ ?_
 ·rintro n k hn ⟨rfl,hv⟩
  have hx:=List.getElem?_eq_getElem hn
  simp only[iLt hn,cond_true,gid hx,Option.bind_some,qN]
  cases hb:nameB p[n] with
  |false=>right;exact⟨_,rfl,VO _ hx hb⟩
  |true=>left;exact⟨_,rfl,inc n (by omega),by rw[xO _ hx,hv,hb];rfl⟩
 ·rintro k ⟨rfl,hv⟩
  exact⟨.inr (),by simp only[afF (Nat.lt_irrefl _),cond_false],by rw[List.take_length] at hv;exact hv⟩
 ·rintro(u|u) h2
  ·exact congrArg some h2.symm
  ·exact congrArg some h2.symm
theorem Ry(s:ByteArray):as3 s=some (nameB s):=by
 simp only[as3,akU,Mo.den,ay,ak,au,aA,aB,D7,Option.bind_some,rF,List.length_cons,List.length_nil,List.all_cons,List.all_nil,Bool.and_true];rfl
def jG(v:ah):Bool:=v.aF==0&&v.fA==0&&decide (v.fText=⟨#[]⟩)&&(v.aW.length:Int)==0&&(v.aU.length:Int)==0
theorem rG(v:ah):asq v=some (jG v):=by
 simp only[asq,ajO,dR,mW,mV,o8,o7,Mo.den,ay,ak,au,aA,aB,jG]
 cases v.aF==0<;>cases v.fA==0<;>cases decide (v.fText=⟨#[]⟩)<;>cases (v.aW.length:Int)==0<;>rfl
def parts(v:ah):List ah:=(if v.aF=6 then v.aW else [])++(if v.aF=5 then v.aU.map aJ.fValue else [])
theorem Rz(v:ah)(hb:aT v.lf1≤100000000):Q34 v=some (parts v):=by
 have hl:=jf v.aW
 have hd:=iQ v.aU
 rw[dW] at hb
 have h0:abU v 0 []=some v.aW:=by
  have:Tot (abU v 0 []) (fun r=>r=v.aW):=by
   refine T.qA v.aW.length (by omega) (fun k s=>s=((k:Int),v.aW.take k)) _ rfl ?_ ?_
   ·rintro k s hk rfl
    have hx:=List.getElem?_eq_getElem hk
    simp only[C9,Mo.den,ay,ak,au,aA,aB,ltt hx,gid hx,cond_true,Option.bind_some]
    refine T.grd (by simp only[List.length_take,List.length_cons,List.length_nil];omega) (T.ret ?_)
    show _=_
    rw[inc k (by omega),List.take_succ_eq_append_getElem hk]
   ·rintro s rfl
    simp only[C9,Mo.den,ay,ak,au,aA,aB,ltn,cond_false]
    exact T.ret (show _=_ by rw[List.take_length])
  obtain⟨r,h,rfl⟩:=this;exact h
 have h1:∀l0:List ah,l0.length≤100000000→UW v 0 l0=some (l0++v.aU.map aJ.fValue):=by
  intro l0 hl0
  have:Tot (UW v 0 l0) (fun r=>r=l0++v.aU.map aJ.fValue):=by
   refine T.qA v.aU.length (by omega) (fun k s=>s=((k:Int),l0++(v.aU.take k).map aJ.fValue)) _ (by simp) ?_ ?_
   ·rintro k s hk rfl
    have hx:=List.getElem?_eq_getElem hk
    simp only[yS,Mo.den,ay,ak,au,aA,aB,ltt hx,gid hx,cond_true,Option.bind_some]
    refine T.grd (by simp only[List.length_append,List.length_map,List.length_take,List.length_cons,List.length_nil];omega) (T.ret ?_)
    show _=_
    rw[inc k (by omega),List.take_succ_eq_append_getElem hk,List.map_append,List.append_assoc];rfl
   ·rintro s rfl
    simp only[yS,Mo.den,ay,ak,au,aA,aB,ltn,cond_false]
    exact T.ret (show _=_ by rw[List.take_length])
  obtain⟨r,h,rfl⟩:=this;exact h
 unfold Q34 apE X6 P7 parts
 simp only[Mo.den,ay,ak,au,aA,aB,h0]
 by_cases a:v.aF=6
 ·have b:v.aF≠5:=by omega
  rw[show(v.aF==6)=true by simpa using a,show(v.aF==5)=false by simpa using b]
  simp[a]
 ·rw[show(v.aF==6)=false by simpa using a]
  by_cases b:v.aF=5
  ·rw[show(v.aF==5)=true by simpa using b];simp[a,b,h1]
  ·rw[show(v.aF==5)=false by simpa using b];simp[a,b]
theorem vU{v x:ah}(h:x∈parts v):aT x.lf1<aT v.lf1:=by
 rw[dW v]
 unfold parts at h
 rcases List.mem_append.1 h with h|h
 ·split at h
  ·have:=jK h;omega
  ·simp at h
 ·split at h
  ·obtain⟨f,hf,rfl⟩:=List.mem_map.1 h
   have:=iC hf;rw[fV] at this;omega
  ·simp at h
theorem RD(v:ah):(parts v).length≤aT v.lf1:=by
 have hl:=jf v.aW
 have hd:=iQ v.aU
 rw[dW v]
 unfold parts
 rw[List.length_append]
 split<;>split<;>simp<;>omega
end Go.Proofs.YtflpefkohpjjpaaGreatDoor
set_option linter.unusedSimpArgs false
set_option linter.unusedVariables false
namespace Go.Proofs.YtflpefkohpjjpaaGreatDoor
open Go.RowKit
def jJ(f:ah→Nat→Nat)(lim:Nat):List ah→Nat→Nat
 |[],n=>n
 |p::r,n=>if f p n<lim then jJ f lim r (f p n) else f p n
theorem vV(f:ah→Nat→Nat)(lim:Nat)(p:ah)(r:List ah)(n:Nat):jJ f lim (p::r) n=if f p n<lim then jJ f lim r (f p n) else f p n:=rfl
mutual
def ah.cnt:ah→Nat
 |.mk k _ _ l d=>1+((if k=6 then ah.cnts l else 0)+(if k=5 then aJ.cnts d else 0))
def ah.cnts:List ah→Nat
 |[]=>0
 |x::r=>x.cnt+ah.cnts r
def aJ.cnts:List aJ→Nat
 |[]=>0
 |.mk _ x::r=>x.cnt+aJ.cnts r
end
mutual
def ah.dep:ah→Nat
 |.mk k _ _ l d=>1+max (if k=6 then ah.deps l else 0) (if k=5 then aJ.deps d else 0)
def ah.deps:List ah→Nat
 |[]=>0
 |x::r=>max x.dep (ah.deps r)
def aJ.deps:List aJ→Nat
 |[]=>0
 |.mk _ x::r=>max x.dep (aJ.deps r)
end
def lS:List Nat→Nat
 |[]=>0
 |x::r=>x+lS r
def oh:List Nat→Nat
 |[]=>0
 |x::r=>max x (oh r)
theorem D8:∀l m:List Nat,lS (l++m)=lS l+lS m
 |[],m=>(Nat.zero_add _).symm
 |x::r,m=>by show x+lS (r++m)=(x+lS r)+lS m;rw[D8 r m];omega
theorem Lr:∀l m:List Nat,oh (l++m)=max (oh l) (oh m)
 |[],m=>by show oh m=max 0 (oh m);omega
 |x::r,m=>by show max x (oh (r++m))=max (max x (oh r)) (oh m);rw[Lr r m];omega
theorem ae8:∀l:List ah,ah.cnts l=lS (l.map ah.cnt)
 |[]=>by simp[ah.cnts,lS]
 |x::r=>by simp[ah.cnts,lS,ae8 r]
theorem ZB:∀l:List aJ,aJ.cnts l=lS ((l.map aJ.fValue).map ah.cnt)
 |[]=>by simp[aJ.cnts,lS]
 |.mk n x::r=>by simp[aJ.cnts,lS,ZB r,aJ.fValue]
theorem ae9:∀l:List ah,ah.deps l=oh (l.map ah.dep)
 |[]=>by simp[ah.deps,oh]
 |x::r=>by simp[ah.deps,oh,ae9 r]
theorem ZC:∀l:List aJ,aJ.deps l=oh ((l.map aJ.fValue).map ah.dep)
 |[]=>by simp[aJ.deps,oh]
 |.mk n x::r=>by simp[aJ.deps,oh,ZC r,aJ.fValue]
theorem Gm(v:ah):v.cnt=1+lS ((parts v).map ah.cnt):=by
 cases v with
 |mk k i s l d=>
  unfold parts
  rw[List.map_append,D8]
  unfold ah.cnt
  rw[ae8,ZB]
  simp only[ah.aF,ah.aW,ah.aU]
  by_cases h6:k=6
  ·subst h6;simp[lS]
  ·by_cases h5:k=5
   ·subst h5;simp[lS]
   ·simp[h6,h5,lS]
theorem Gn(v:ah):v.dep=1+oh ((parts v).map ah.dep):=by
 cases v with
 |mk k i s l d=>
  unfold parts
  rw[List.map_append,Lr]
  unfold ah.dep
  rw[ae9,ZC]
  simp only[ah.aF,ah.aW,ah.aU]
  by_cases h6:k=6
  ·subst h6;simp[oh]
  ·by_cases h5:k=5
   ·subst h5;simp[oh]
   ·simp[h6,h5,oh]
theorem adr(v:ah):1≤v.cnt:=by rw[Gm];omega
theorem ads(v:ah):1≤v.dep:=by rw[Gn];omega
theorem RF(most:Nat):∀(l:List ah) (n:Nat),n<most→jJ (fun p n=>n+min p.cnt (most-n)) most l n=min (n+lS (l.map ah.cnt)) most
 |[],n,h=>by unfold jJ;simp only[List.map_nil,lS];omega
 |p::r,n,h=>by
  unfold jJ
  simp only[List.map_cons,lS]
  split
  ·rename_i hc
   rw[RF most r _ hc]
   omega
  ·omega
theorem RG(most:Nat)(hm:1≤most):∀(l:List ah) (n:Nat),n≤most-1→(l=[]∨n<most-1→jJ (fun p n=>max n (min p.dep (most-1))) (most-1) l n=min (max n (oh (l.map ah.dep))) (most-1))
 |[],n,h,_=>by unfold jJ;simp only[List.map_nil,oh];omega
 |p::r,n,h,hh=>by
  have hn:n<most-1:=hh.resolve_left (by simp)
  unfold jJ
  simp only[List.map_cons,oh]
  split
  ·rename_i hc
   rw[RG most hm r _ (by omega) (.inr hc)]
   omega
  ·omega

theorem agT(R:RB2)(v:ah)(f:ah→Nat→Nat)(lim:Nat)(b1:Int)(I:Nat→Prop)(hb:aT v.lf1≤100000000)
 (h3:∀p∈parts v,∀n:Nat,I n→R.m3 p n b1=some (decide (f p n<lim),(f p n:Int),b1)∧(f p n<lim→I (f p n))) (n:Nat) (hn:I n):
 Mo.den (JD R v n b1)=some (((jJ f lim (parts v) n:Nat):Int),b1):=by
 have hl:=jf v.aW
 have hd:=iQ v.aU
 rw[dW] at hb
 unfold JD
 simp only[Mo.den,ay,ak,au,aA,aB]
 by_cases h6:v.aF=6
 ·have e6:(v.aF==6)=true:=by simpa using h6
  have hp:parts v=v.aW:=by unfold parts;rw[if_pos h6,if_neg (by omega),List.append_nil]
  rw[e6,hp]
  simp only[cond_true]
  have key:Tot (adJ R v 0 n b1) (fun r=>match r with|.inl o=>o=(((jJ f lim v.aW n:Nat):Int),b1)|.inr o=>o=(((jJ f lim v.aW n:Nat):Int),b1)):=by
   refine T.qA v.aW.length (by omega) (fun k s=>∃m:Nat,s=((k:Int),(m:Int),b1)∧I m∧jJ f lim v.aW n=jJ f lim (v.aW.drop k) m) _ ⟨n,rfl,hn,rfl⟩ ?_ ?_
   ·rintro k s hk ⟨m,rfl,hm,he⟩
    have hx:=List.getElem?_eq_getElem hk
    have hdr:v.aW.drop k=v.aW[k]::v.aW.drop (k+1):=List.drop_eq_getElem_cons hk
    obtain⟨q1,q2⟩:=h3 v.aW[k] (by rw[hp];exact List.getElem_mem hk) m hm
    simp only[yI,Mo.den,ay,ak,au,aA,aB,ltt hx,gid hx,cond_true,Option.bind_some,q1]
    rw[hdr,vV] at he
    by_cases hc:f v.aW[k] m<lim
    ·rw[if_pos hc] at he
     rw[decide_eq_true hc]
     exact T.ret ⟨_,by rw[inc k (by omega)],q2 hc,he⟩
    ·rw[if_neg hc] at he
     rw[decide_eq_false hc]
     exact T.ret (show _=_ by rw[he])
   ·rintro s ⟨m,rfl,hm,he⟩
    rw[List.drop_length] at he
    have he:jJ f lim v.aW n=m:=he
    simp only[yI,Mo.den,ay,ak,au,aA,aB,ltn,cond_false]
    exact T.ret (show _=_ by rw[he])
  obtain⟨r,h,hr⟩:=key
  rw[h]
  rcases r with r|r
  ·have hr:r=_:=hr
   subst hr;rfl
  ·have hr:r=_:=hr
   subst hr;rfl
 ·have e6:(v.aF==6)=false:=by simpa using h6
  by_cases h5:v.aF=5
  ·have e5:(v.aF==5)=true:=by simpa using h5
   have hp:parts v=v.aU.map aJ.fValue:=by unfold parts;rw[if_neg h6,if_pos h5,List.nil_append]
   rw[e6,e5,hp]
   simp only[cond_true,cond_false]
   have key:Tot (adK R v 0 n b1) (fun r=>match r with|.inl o=>o=(((jJ f lim (v.aU.map aJ.fValue) n:Nat):Int),b1)|.inr o=>o=(((jJ f lim (v.aU.map aJ.fValue) n:Nat):Int),b1)):=by
    refine T.qA v.aU.length (by omega) (fun k s=>∃m:Nat,s=((k:Int),(m:Int),b1)∧I m∧jJ f lim (v.aU.map aJ.fValue) n=jJ f lim ((v.aU.drop k).map aJ.fValue) m) _ ⟨n,rfl,hn,rfl⟩ ?_ ?_
    ·rintro k s hk ⟨m,rfl,hm,he⟩
     have hx:=List.getElem?_eq_getElem hk
     have hdr:v.aU.drop k=v.aU[k]::v.aU.drop (k+1):=List.drop_eq_getElem_cons hk
     obtain⟨q1,q2⟩:=h3 v.aU[k].fValue (by rw[hp];exact List.mem_map.2 ⟨_,List.getElem_mem hk,rfl⟩) m hm
     simp only[yJ,Mo.den,ay,ak,au,aA,aB,ltt hx,gid hx,cond_true,Option.bind_some,q1]
     rw[hdr,List.map_cons,vV] at he
     by_cases hc:f v.aU[k].fValue m<lim
     ·rw[if_pos hc] at he
      rw[decide_eq_true hc]
      exact T.ret ⟨_,by rw[inc k (by omega)],q2 hc,he⟩
     ·rw[if_neg hc] at he
      rw[decide_eq_false hc]
      exact T.ret (show _=_ by rw[he])
    ·rintro s ⟨m,rfl,hm,he⟩
     rw[List.drop_length,List.map_nil] at he
     have he:jJ f lim (v.aU.map aJ.fValue) n=m:=he
     simp only[yJ,Mo.den,ay,ak,au,aA,aB,ltn,cond_false]
     exact T.ret (show _=_ by rw[he])
   obtain⟨r,h,hr⟩:=key
   rw[h]
   rcases r with r|r
   ·have hr:r=_:=hr
    subst hr;rfl
   ·have hr:r=_:=hr
    subst hr;rfl
  ·have e5:(v.aF==5)=false:=by simpa using h5
   have hp:parts v=[]:=by unfold parts;rw[if_neg h6,if_neg h5];rfl
   rw[e6,e5,hp]
   rfl

theorem agU(R:RB3)(v:ah)(f:ah→Nat→Nat)(lim:Nat)(b1:Int)(I:Nat→Prop)(hb:aT v.lf1≤100000000)
 (h3:∀p∈parts v,∀n:Nat,I n→R.m3 p n b1=some (decide (f p n<lim),(f p n:Int),b1)∧(f p n<lim→I (f p n))) (n:Nat) (hn:I n):
 Mo.den (XA R v n b1)=some (((jJ f lim (parts v) n:Nat):Int),b1):=by
 have hl:=jf v.aW
 have hd:=iQ v.aU
 rw[dW] at hb
 unfold XA
 simp only[Mo.den,ay,ak,au,aA,aB]
 by_cases h6:v.aF=6
 ·have e6:(v.aF==6)=true:=by simpa using h6
  have hp:parts v=v.aW:=by unfold parts;rw[if_pos h6,if_neg (by omega),List.append_nil]
  rw[e6,hp]
  simp only[cond_true]
  have key:Tot (aiz R v 0 n b1) (fun r=>match r with|.inl o=>o=(((jJ f lim v.aW n:Nat):Int),b1)|.inr o=>o=(((jJ f lim v.aW n:Nat):Int),b1)):=by
   refine T.qA v.aW.length (by omega) (fun k s=>∃m:Nat,s=((k:Int),(m:Int),b1)∧I m∧jJ f lim v.aW n=jJ f lim (v.aW.drop k) m) _ ⟨n,rfl,hn,rfl⟩ ?_ ?_
   ·rintro k s hk ⟨m,rfl,hm,he⟩
    have hx:=List.getElem?_eq_getElem hk
    have hdr:v.aW.drop k=v.aW[k]::v.aW.drop (k+1):=List.drop_eq_getElem_cons hk
    obtain⟨q1,q2⟩:=h3 v.aW[k] (by rw[hp];exact List.getElem_mem hk) m hm
    simp only[CB,Mo.den,ay,ak,au,aA,aB,ltt hx,gid hx,cond_true,Option.bind_some,q1]
    rw[hdr,vV] at he
    by_cases hc:f v.aW[k] m<lim
    ·rw[if_pos hc] at he
     rw[decide_eq_true hc]
     exact T.ret ⟨_,by rw[inc k (by omega)],q2 hc,he⟩
    ·rw[if_neg hc] at he
     rw[decide_eq_false hc]
     exact T.ret (show _=_ by rw[he])
   ·rintro s ⟨m,rfl,hm,he⟩
    rw[List.drop_length] at he
    have he:jJ f lim v.aW n=m:=he
    simp only[CB,Mo.den,ay,ak,au,aA,aB,ltn,cond_false]
    exact T.ret (show _=_ by rw[he])
  obtain⟨r,h,hr⟩:=key
  rw[h]
  rcases r with r|r
  ·have hr:r=_:=hr
   subst hr;rfl
  ·have hr:r=_:=hr
   subst hr;rfl
 ·have e6:(v.aF==6)=false:=by simpa using h6
  by_cases h5:v.aF=5
  ·have e5:(v.aF==5)=true:=by simpa using h5
   have hp:parts v=v.aU.map aJ.fValue:=by unfold parts;rw[if_neg h6,if_pos h5,List.nil_append]
   rw[e6,e5,hp]
   simp only[cond_true,cond_false]
   have key:Tot (aiA R v 0 n b1) (fun r=>match r with|.inl o=>o=(((jJ f lim (v.aU.map aJ.fValue) n:Nat):Int),b1)|.inr o=>o=(((jJ f lim (v.aU.map aJ.fValue) n:Nat):Int),b1)):=by
    refine T.qA v.aU.length (by omega) (fun k s=>∃m:Nat,s=((k:Int),(m:Int),b1)∧I m∧jJ f lim (v.aU.map aJ.fValue) n=jJ f lim ((v.aU.drop k).map aJ.fValue) m) _ ⟨n,rfl,hn,rfl⟩ ?_ ?_
    ·rintro k s hk ⟨m,rfl,hm,he⟩
     have hx:=List.getElem?_eq_getElem hk
     have hdr:v.aU.drop k=v.aU[k]::v.aU.drop (k+1):=List.drop_eq_getElem_cons hk
     obtain⟨q1,q2⟩:=h3 v.aU[k].fValue (by rw[hp];exact List.mem_map.2 ⟨_,List.getElem_mem hk,rfl⟩) m hm
     simp only[CG,Mo.den,ay,ak,au,aA,aB,ltt hx,gid hx,cond_true,Option.bind_some,q1]
     rw[hdr,List.map_cons,vV] at he
     by_cases hc:f v.aU[k].fValue m<lim
     ·rw[if_pos hc] at he
      rw[decide_eq_true hc]
      exact T.ret ⟨_,by rw[inc k (by omega)],q2 hc,he⟩
     ·rw[if_neg hc] at he
      rw[decide_eq_false hc]
      exact T.ret (show _=_ by rw[he])
    ·rintro s ⟨m,rfl,hm,he⟩
     rw[List.drop_length,List.map_nil] at he
     have he:jJ f lim (v.aU.map aJ.fValue) n=m:=he
     simp only[CG,Mo.den,ay,ak,au,aA,aB,ltn,cond_false]
     exact T.ret (show _=_ by rw[he])
   obtain⟨r,h,hr⟩:=key
   rw[h]
   rcases r with r|r
   ·have hr:r=_:=hr
    subst hr;rfl
   ·have hr:r=_:=hr
    subst hr;rfl
  ·have e5:(v.aF==5)=false:=by simpa using h5
   have hp:parts v=[]:=by unfold parts;rw[if_neg h6,if_neg h5];rfl
   rw[e6,e5,hp]
   rfl

theorem acC:∀(F:Nat) (v:ah) (most:Nat),3*aT v.lf1≤F→aT v.lf1≤100000000→1≤most→most≤2000→(ru F).m1 v most=some ((min v.cnt most:Nat):Int):=by
 intro F
 induction F using Nat.strongRecOn with
 |_ F ih=>
 intro v most hF hb h1 h2
 have hp:=dW v
 obtain⟨F,rfl⟩:∃G,F=G+3:=⟨F-3,by omega⟩
 show Mo.den (Ub (ru (F+2)) v most)=_
 unfold Ub
 simp only[Mo.den,ay,ak,au,aA,aB]
 by_cases hm:most=1
 ·subst hm
  have:=adr v
  rw[show min v.cnt 1=1 by omega]
  rfl
 ·rw[show((1:Int)==(most:Int))=false by rw[beq_eq_false_iff_ne];omega]
  have he:(ru (F+2)).m2 v 1 most=some (((min v.cnt most:Nat):Int),(most:Int)):=by
   show Mo.den (JD (ru (F+1)) v 1 most)=_
   have:=agT (ru (F+1)) v (fun p n=>n+min p.cnt (most-n)) most most (fun n=>n<most) hb (fun p hq n hn=>?_) 1 (show 1<most by omega)
   ·rw[show((1:Int))=((1:Nat):Int) from rfl,this,RF most _ 1 (by omega),←Gm]
   ·refine⟨?_,fun h=>h⟩
    have hlt:=vU hq
    show Mo.den (Uc (ru F) p n most)=_
    unfold Uc
    have hsub:IntKind.wrap .i64 ((most:Int)-(n:Int))=((most-n:Nat):Int):=by rw[w64 (by omega) (by omega)];omega
    simp only[Mo.den,ay,ak,au,aA,aB,hsub,ih F (by omega) p (most-n) (by omega) (by omega) (by omega) (by omega),Option.bind_some]
    rw[w64 (by omega) (by omega),show(n:Int)+((min p.cnt (most-n):Nat):Int)=((n+min p.cnt (most-n):Nat):Int) by omega]
    congr 2
    rw[Bool.eq_iff_iff];simp only[decide_eq_true_iff];omega
  simp only[cond_false,he,Option.bind_some]
theorem agV(v:ah)(hb:aT v.lf1≤100000000):aq8 v=some ((min v.cnt 1025:Nat):Int):=by
 simp only[aq8,aiv,Mo.den,ay,ak,au,aA,aB]
 have:aug v 1025=some ((min v.cnt 1025:Nat):Int):=acC FU v 1025 (by have:=gW;omega) hb (by omega) (by omega)
 rw[this];rfl
theorem acD:∀(F:Nat) (v:ah) (most:Nat),3*aT v.lf1≤F→aT v.lf1≤100000000→1≤most→most≤2000→(rC F).m1 v most=some ((min v.dep most:Nat):Int):=by
 intro F
 induction F using Nat.strongRecOn with
 |_ F ih=>
 intro v most hF hb h1 h2
 have hp:=dW v
 obtain⟨F,rfl⟩:∃G,F=G+3:=⟨F-3,by omega⟩
 show Mo.den (Ud (rC (F+2)) v most)=_
 unfold Ud
 simp only[Mo.den,ay,ak,au,aA,aB]
 have hpos:=ads v
 by_cases hm:most=1
 ·subst hm
  rw[show min v.dep 1=1 by omega]
  rfl
 ·rw[show((most:Int)==(1:Int))=false by rw[beq_eq_false_iff_ne];omega]
  have he:(rC (F+2)).m2 v 0 most=some (((min v.dep most-1:Nat):Int),(most:Int)):=by
   show Mo.den (XA (rC (F+1)) v 0 most)=_
   have:=agU (rC (F+1)) v (fun p n=>max n (min p.dep (most-1))) (most-1) most (fun n=>n<most-1) hb (fun p hq n hn=>?_) 0 (show 0<most-1 by omega)
   ·rw[show((0:Int))=((0:Nat):Int) from rfl, this, RG most h1 _ 0 (by omega) (.inr (by omega))]
    have e:=Gn v
    rw[show min (max 0 (oh ((parts v).map ah.dep))) (most-1)=min v.dep most-1 by omega]
   ·refine⟨?_,fun h=>h⟩
    have hlt:=vU hq
    show Mo.den (Ue (rC F) p n most)=_
    unfold Ue
    have hsub:IntKind.wrap .i64 ((most:Int)-1)=((most-1:Nat):Int):=by rw[w64 (by omega) (by omega)];omega
    simp only[Mo.den,ay,ak,au,aA,aB,hsub,ih F (by omega) p (most-1) (by omega) (by omega) (by omega) (by omega),Option.bind_some]
    rw[show(if((min p.dep (most-1):Nat):Int) > (n:Int) then((min p.dep (most-1):Nat):Int) else(n:Int))=((max n (min p.dep (most-1)):Nat):Int) by split<;>omega]
    congr 2
    rw[Bool.eq_iff_iff];simp only[decide_eq_true_iff];omega
  simp only[cond_false,he,Option.bind_some]
  rw[w64 (by omega) (by omega)]
  congr 1
  omega
theorem agW(v:ah)(hb:aT v.lf1≤100000000):aq9 v=some ((min v.dep 17:Nat):Int):=by
 simp only[aq9,aiC,Mo.den,ay,ak,au,aA,aB]
 have:auh v 17=some ((min v.dep 17:Nat):Int):=acD FU v 17 (by have:=gW;omega) hb (by omega) (by omega)
 rw[this];rfl
end Go.Proofs.YtflpefkohpjjpaaGreatDoor
set_option linter.unusedSimpArgs false
set_option linter.unusedVariables false
namespace Go.Proofs.YtflpefkohpjjpaaGreatDoor
open Go.RowKit
theorem size_nil{s:ByteArray}(h:s.size<1):s=⟨#[]⟩:=by
 cases s with
 |mk d=>
  have h:d.size<1:=h
  have:d=#[]:=Array.eq_empty_of_size_eq_zero (by omega)
  rw[this]
theorem VP{s:ByteArray}(h:¬s.size<1):¬s=⟨#[]⟩:=fun e=>h (by rw[e];exact Nat.zero_lt_one)


theorem zu(s:ByteArray):Q71 s=some (nameB s):=by
 have key:s.size≤32→Tot (CJ s 0) (fun r=>match r with|.inl _=>s.data.toList.all (fun c=>mD c.toNat)=false|.inr _=>s.data.toList.all (fun c=>mD c.toNat)=true):=by
  intro h2
  refine T.qA s.size (by omega) (fun k v=>v=(k:Int)∧∀i (hi:i<s.size),i<k→mD s[i].toNat=true) _ ⟨rfl,fun i _ h=>absurd h (by omega)⟩ ?_ ?_
  ·rintro k v hk ⟨rfl,hv⟩
   have hc:mD s[k].toNat=(decide (33≤s[k].toNat)&&decide (s[k].toNat≤126)&&!(s[k].toNat==46)):=rfl
   have e46:((s[k].toNat:Int)==46)=(s[k].toNat==46):=by rw[Bool.eq_iff_iff];simp;omega
   simp only[oI,kE,kF,Mo.den,ay,ak,au,aA,aB,iLt hk,cond_true,og s k hk,Option.bind_some]
   by_cases a1:s[k].toNat<33
   ·rw[decide_eq_true (show(s[k].toNat:Int)<33 by omega)]
    simp only[cond_true,Option.bind_some]
    exact T.ret (rX s _ k hk (by rw[hc,decide_eq_false (show ¬33≤s[k].toNat by omega)];rfl))
   rw[decide_eq_false (show ¬(s[k].toNat:Int)<33 by omega)];simp only[cond_false,Option.bind_some]
   by_cases a2:126<s[k].toNat
   ·rw[decide_eq_true (show(126:Int)<(s[k].toNat:Int) by omega)]
    simp only[cond_true,Option.bind_some]
    exact T.ret (rX s _ k hk (by rw[hc,decide_eq_false (show ¬s[k].toNat≤126 by omega),Bool.and_false];rfl))
   rw[decide_eq_false (show ¬(126:Int)<(s[k].toNat:Int) by omega),e46];simp only[cond_false,Option.bind_some]
   cases a3:s[k].toNat==46 with
   |true=>
    simp only[cond_true]
    exact T.ret (rX s _ k hk (by rw[hc,a3,Bool.not_true,Bool.and_false]))
   |false=>
    simp only[cond_false]
    refine T.ret ⟨inc k (by omega),fun i hi hl=>?_⟩
    rcases Nat.lt_succ_iff_lt_or_eq.1 hl with h3|rfl
    ·exact hv i hi h3
    ·rw[hc,a3,decide_eq_true (show 33≤s[i].toNat by omega),decide_eq_true (show s[i].toNat≤126 by omega)];rfl
  ·rintro v ⟨rfl,hv⟩
   simp only[oI,Mo.den,ay,ak,au,aA,aB,ltn,cond_false]
   exact T.ret (Ih s _ fun i hi=>hv i hi hi)
 unfold Q71 XB kC kD
 simp only[Mo.den,ay,ak,au,aA,aB]
 by_cases h0:s.size<1
 ·rw[decide_eq_true (show(s.size:Int)<1 by omega)]
  rw[EL s (by omega)];rfl
 rw[decide_eq_false (show ¬(s.size:Int)<1 by omega)];simp only[cond_false]
 by_cases h1:32<s.size
 ·rw[decide_eq_true (show(32:Int)<(s.size:Int) by omega),EK s h1];rfl
 rw[decide_eq_false (show ¬(32:Int)<(s.size:Int) by omega)];simp only[Option.bind_some,cond_false]
 have hz:kN s 0=some s[0]:=og s 0 (by omega)
 rw[hz,uT s (by omega) (by omega)]
 simp only[Option.bind_some]
 have e36:((s[0].toNat:Int)==36)=(s[0].toNat==36):=by rw[Bool.eq_iff_iff];simp;omega
 rw[e36]
 cases hq:s[0].toNat==36 with
 |true=>rfl
 |false=>
  obtain⟨r,h,hr⟩:=key (by omega)
  simp only[cond_false,Bool.not_false,Bool.true_and,h,Option.bind_some]
  rcases r with r|r
  ·have hr:_=false:=hr
   rw[hr];all_goals rfl
  ·have hr:_=true:=hr
   rw[hr];all_goals rfl

theorem qB(s:ByteArray):Q12 s=some (nameB s):=(show Q12 s=Q71 s by simp only[Q12,apw,NY,kF,kE,kD,kC,Mo.den,ay,ak,au,aA,aB,Q71,XB,CJ,oI,kF,kE,kD,kC,Mo.den,ay,ak,au,aA,aB]).trans (zu s)
theorem zx(s:ByteArray):anK s=some (nameB s):=(show anK s=Q71 s by simp only[anK,ai1,Ko,kF,kE,kD,kC,Mo.den,ay,ak,au,aA,aB,Q71,XB,CJ,oI,kF,kE,kD,kC,Mo.den,ay,ak,au,aA,aB]).trans (zu s)
theorem RH(s:ByteArray):Q78 s=some (nameB s):=by
 rw[←zu s]
 have e:decide (s=(⟨#[]⟩:ByteArray))=decide ((s.size:Int)<1):=by
  by_cases h:s.size<1
  ·rw[decide_eq_true (size_nil h),decide_eq_true (by omega)]
  ·rw[decide_eq_false (VP h),decide_eq_false (by omega)]
 simp only[Q78,apx,O4,O1,OZ,XK,XJ,Mo.den,ay,ak,au,aA,aB,Q71,XB,CJ,oI,kF,kE,kD,kC,Mo.den,ay,ak,au,aA,aB,e]

theorem agX(s:ByteArray):arl s=some (!nameB s):=by
 have key:s.size≤32→Tot (XL s 0) (fun r=>match r with|.inl _=>s.data.toList.all (fun c=>mD c.toNat)=false|.inr _=>s.data.toList.all (fun c=>mD c.toNat)=true):=by
  intro h2
  refine T.qA s.size (by omega) (fun k v=>v=(k:Int)∧∀i (hi:i<s.size),i<k→mD s[i].toNat=true) _ ⟨rfl,fun i _ h=>absurd h (by omega)⟩ ?_ ?_
  ·rintro k v hk ⟨rfl,hv⟩
   have hc:mD s[k].toNat=(decide (33≤s[k].toNat)&&decide (s[k].toNat≤126)&&!(s[k].toNat==46)):=rfl
   have e46:((s[k].toNat:Int)==46)=(s[k].toNat==46):=by rw[Bool.eq_iff_iff];simp;omega
   simp only[uY,kE,kF,Mo.den,ay,ak,au,aA,aB,iLt hk,cond_true,og s k hk,Option.bind_some]
   by_cases a1:s[k].toNat<33
   ·rw[decide_eq_true (show(s[k].toNat:Int)<33 by omega)]
    simp only[cond_true,Option.bind_some]
    exact T.ret (rX s _ k hk (by rw[hc,decide_eq_false (show ¬33≤s[k].toNat by omega)];rfl))
   rw[decide_eq_false (show ¬(s[k].toNat:Int)<33 by omega)];simp only[cond_false,Option.bind_some]
   by_cases a2:126<s[k].toNat
   ·rw[decide_eq_true (show(126:Int)<(s[k].toNat:Int) by omega)]
    simp only[cond_true,Option.bind_some]
    exact T.ret (rX s _ k hk (by rw[hc,decide_eq_false (show ¬s[k].toNat≤126 by omega),Bool.and_false];rfl))
   rw[decide_eq_false (show ¬(126:Int)<(s[k].toNat:Int) by omega),e46];simp only[cond_false,Option.bind_some]
   cases a3:s[k].toNat==46 with
   |true=>
    simp only[cond_true]
    exact T.ret (rX s _ k hk (by rw[hc,a3,Bool.not_true,Bool.and_false]))
   |false=>
    simp only[cond_false]
    refine T.ret ⟨inc k (by omega),fun i hi hl=>?_⟩
    rcases Nat.lt_succ_iff_lt_or_eq.1 hl with h3|rfl
    ·exact hv i hi h3
    ·rw[hc,a3,decide_eq_true (show 33≤s[i].toNat by omega),decide_eq_true (show s[i].toNat≤126 by omega)];rfl
  ·rintro v ⟨rfl,hv⟩
   simp only[uY,Mo.den,ay,ak,au,aA,aB,ltn,cond_false]
   exact T.ret (Ih s _ fun i hi=>hv i hi hi)
 unfold arl aiL kC kD
 simp only[Mo.den,ay,ak,au,aA,aB]
 by_cases h0:s.size<1
 ·rw[decide_eq_true (show(s.size:Int)<1 by omega)]
  rw[EL s (by omega)];rfl
 rw[decide_eq_false (show ¬(s.size:Int)<1 by omega)];simp only[cond_false]
 by_cases h1:32<s.size
 ·rw[decide_eq_true (show(32:Int)<(s.size:Int) by omega),EK s h1];rfl
 rw[decide_eq_false (show ¬(32:Int)<(s.size:Int) by omega)];simp only[Option.bind_some,cond_false]
 have hz:kN s 0=some s[0]:=og s 0 (by omega)
 rw[hz,uT s (by omega) (by omega)]
 simp only[Option.bind_some]
 have e36:((s[0].toNat:Int)==36)=(s[0].toNat==36):=by rw[Bool.eq_iff_iff];simp;omega
 rw[e36]
 cases hq:s[0].toNat==36 with
 |true=>rfl
 |false=>
  obtain⟨r,h,hr⟩:=key (by omega)
  simp only[cond_false,Bool.not_false,Bool.true_and,h,Option.bind_some]
  rcases r with r|r
  ·have hr:_=false:=hr
   rw[hr];all_goals rfl
  ·have hr:_=true:=hr
   rw[hr];all_goals rfl


def hasB(n:ByteArray)(l:List ByteArray):Bool:=l.any fun m=>decide (n=m)
mutual
def ah.snd:ah→Bool
 |.mk k i s l d=>(EM k i s l.length d.length&&Ja k i s)&&(ah.jO l&&aJ.jO [] d)
def ah.jO:List ah→Bool
 |[]=>true
 |x::r=>x.snd&&ah.jO r
def aJ.jO:List ByteArray→List aJ→Bool
 |_,[]=>true
 |seen,.mk n x::r=>(nameB n&&!hasB n seen)&&(x.snd&&aJ.jO (n::seen) r)
end
theorem Ls:∀l:List ah,ah.jO l=l.all ah.snd
 |[]=>by unfold ah.jO;rfl
 |x::r=>by unfold ah.jO;rw[Ls r];rfl
def oN(l:List ByteArray):List (ByteArray×Bool):=l.map fun n=>(n,true)
theorem uy(n:ByteArray):∀l:List ByteArray,wO (oN l) n false=hasB n l
 |[]=>rfl
 |x::r=>by
  show(if n=x then true else wO (oN r) n false)=(decide (n=x)||hasB n r)
  rw[uy n r]
  by_cases h:n=x
  ·rw[if_pos h,decide_eq_true h];rfl
  ·rw[if_neg h,decide_eq_false h];rfl
theorem Lu(seen:List ByteArray)(n:ByteArray)(x:ah)(r:List aJ):aJ.jO seen (.mk n x::r)=((nameB n&&!hasB n seen)&&(x.snd&&aJ.jO (n::seen) r)):=by rw[aJ.jO]
theorem RI(seen:List ByteArray):aJ.jO seen []=true:=by rw[aJ.jO]
theorem acE(v:ah):v.snd=((EM v.aF v.fA v.fText v.aW.length v.aU.length&&Ja v.aF v.fA v.fText)&&(ah.jO v.aW&&aJ.jO [] v.aU)):=by
 cases v with
 |mk k i s l d=>rw[ah.snd];rfl
theorem ZE(R:RB4)(l:List aJ)(hl:l.length≤100000000)(h1:∀x∈l,R.m1 x.fValue=some x.fValue.snd):Mo.den (adO R l)=some (aJ.jO [] l):=by
 unfold adO
 simp only[Mo.den,ay,ak,au,aA,aB]
 have key:Tot (adN R l 0 []) (fun r=>match r with|.inl _=>aJ.jO [] l=false|.inr _=>aJ.jO [] l=true):=by
  refine T.qA l.length (by omega) (fun k s=>∃m:List ByteArray,m.length=k∧s=((k:Int),oN m)∧aJ.jO [] l=aJ.jO m (l.drop k)) _ ⟨[],rfl,rfl,rfl⟩ ?_ ?_
  ·rintro k s hk ⟨m,hm,rfl,he⟩
   have hx:=List.getElem?_eq_getElem hk
   have hdr:l.drop k=l[k]::l.drop (k+1):=List.drop_eq_getElem_cons hk
   have q1:=h1 l[k] (List.getElem_mem hk)
   rw[hdr] at he
   obtain⟨n,x⟩:∃n x,l[k]=aJ.mk n x:=by cases l[k] with|mk n x=>exact⟨n,x,rfl⟩
   obtain⟨x,e⟩:=x
   rw[e] at q1 he
   rw[Lu] at he
   unfold yL
   simp only[XE,XF,Mo.den,ay,ak,au,aA,aB,ltt hx,gid hx,cond_true,Option.bind_some,e,aJ.fName,aJ.fValue,zu,uy]
   simp only[aJ.fValue] at q1
   rw[q1]
   cases a:nameB n with
   |false=>rw[a] at he;exact T.ret (show _=false by rw[he];rfl)
   |true=>
    cases b:hasB n m with
    |true=>rw[a,b] at he;exact T.ret (show _=false by rw[he];rfl)
    |false=>
     cases c:x.snd with
     |false=>rw[a,b,c] at he;exact T.ret (show _=false by rw[he];rfl)
     |true=>
      rw[a,b,c] at he
      refine T.grd (by rw[oN,List.length_map];unfold maxLen;omega) (T.ret ⟨n::m,by simp[hm],by rw[inc k (by omega)];rfl,by rw[he];rfl⟩)
  ·rintro s ⟨m,hm,rfl,he⟩
   rw[List.drop_length,RI] at he
   unfold yL
   simp only[Mo.den,ay,ak,au,aA,aB,ltn,cond_false]
   exact T.ret he
 obtain⟨r,h,hr⟩:=key
 rw[h]
 rcases r with r|r
 ·have hr:_=false:=hr
  rw[hr];all_goals rfl
 ·have hr:_=true:=hr
  rw[hr];all_goals rfl
theorem agY(R:RB4)(v:ah)(hl:v.aW.length≤100000000)(h1:∀x∈v.aW,R.m1 x=some x.snd):Tot (adL R v 0) (fun r=>match r with|.inl _=>ah.jO v.aW=false|.inr _=>ah.jO v.aW=true):=by
 rw[Ls]
 refine T.qA v.aW.length (by omega) (fun k s=>s=(k:Int)∧(v.aW.take k).all ah.snd=true) _ ⟨rfl,by simp⟩ ?_ ?_
 ·rintro k s hk ⟨rfl,he⟩
  have hx:=List.getElem?_eq_getElem hk
  simp only[yK,Mo.den,ay,ak,au,aA,aB,ltt hx,gid hx,cond_true,Option.bind_some,h1 _ (List.getElem_mem hk)]
  cases c:v.aW[k].snd with
  |false=>exact T.ret (VO _ hx c)
  |true=>exact T.ret ⟨inc k (by omega),by rw[xO _ hx,he,c];rfl⟩
 ·rintro s ⟨rfl,he⟩
  simp only[yK,Mo.den,ay,ak,au,aA,aB,ltn,cond_false]
  rw[List.take_length] at he
  exact T.ret he
theorem acF:∀(F:Nat) (v:ah),2*aT v.lf1≤F→aT v.lf1≤100000000→(wS F).m1 v=some v.snd:=by
 intro F
 induction F using Nat.strongRecOn with
 |_ F ih=>
 intro v hF hb
 have hp:=dW v
 have hl:=jf v.aW
 have hd:=iQ v.aU
 obtain⟨F,rfl⟩:∃G,F=G+2:=⟨F-2,by omega⟩
 show Mo.den (adM (wS (F+1)) v)=_
 have hL:=agY (wS (F+1)) v (by omega) fun x hx=>ih (F+1) (by omega) x (by have:=jK hx;omega) (by have:=jK hx;omega)
 have hD:(wS (F+1)).m2 v.aU=some (aJ.jO [] v.aU):=ZE (wS F) v.aU (by omega) fun x hx=>ih F (by omega) x.fValue (by have:=iC hx;rw[fV] at this;omega) (by have:=iC hx;rw[fV] at this;omega)
 obtain⟨r0,hL,hr0⟩:=hL
 clear ih hF hb hp hl hd
 rw[acE]
 unfold adM
 simp only[XC,XD,OH,OI,OJ,OL,OM,OO,OQ,OT,OU,OV,OW,Mo.den,ay,ak,au,aA,aB,hL,hD,aud]
 clear hL hD
 generalize v.aF=k at *
 generalize v.fA=i at *
 generalize v.fText=s at *
 generalize v.aW=l at *
 generalize v.aU=d at *
 unfold EM Ja
 have ei:(i != 0)=!(i==0):=rfl
 have es:∀dd:Decidable (s=(⟨#[]⟩:ByteArray)),@decide _ dd=decide (s.size=0):=fun dd=>by
  by_cases h:s.size=0
  ·rw[decide_eq_true h,decide_eq_true (size_nil (by omega))]
  ·rw[decide_eq_false h,decide_eq_false (VP (by omega))]
 have el:decide ((0:Int)<(l.length:Int))=!(l.length==0):=by
  cases l with
  |nil=>rfl
  |cons x r=>rw[decide_eq_true (show(0:Int)<((x::r).length:Int) by rw[List.length_cons];omega)];rfl
 have ed:decide ((0:Int)<(d.length:Int))=!(d.length==0):=by
  cases d with
  |nil=>rfl
  |cons x r=>rw[decide_eq_true (show(0:Int)<((x::r).length:Int) by rw[List.length_cons];omega)];rfl
 simp only[ei,es,el,ed]
 have e4:decide ((s.size:Int)≤4096)=decide (s.size≤4096):=by rw[Bool.eq_iff_iff];simp;omega
 have e12:((s.size:Int)==12)=decide (s.size=12):=by rw[Bool.eq_iff_iff];simp;omega
 simp only[e4,e12]
 have hl0:(l.length==0)=true→ah.jO l=true:=fun h=>by
  have:l=[]:=List.eq_nil_of_length_eq_zero (by simpa using h)
  rw[this];unfold ah.jO;rfl
 have hd0:(d.length==0)=true→aJ.jO [] d=true:=fun h=>by
  have:d=[]:=List.eq_nil_of_length_eq_zero (by simpa using h)
  rw[this];unfold aJ.jO;rfl
 clear ei es el ed e4 e12
 generalize ah.jO l=A at *
 generalize aJ.jO [] d=B at *
 generalize (l.length==0)=nl at *
 generalize (d.length==0)=nd at *
 generalize qg s=u at *
 generalize decide (s.size≤4096)=c1 at *
 generalize decide (s.size=12)=c2 at *
 generalize decide (s.size=0)=c3 at *
 have hk:k=1∨k=2∨k=3∨k=4∨k=5∨k=6∨k=7∨k=8∨k=9∨k=10∨k=11∨(k≠1∧k≠2∧k≠3∧k≠4∧k≠5∧k≠6∧k≠7∧k≠8∧k≠9∧k≠10∧k≠11):=by omega
 rcases hk with rfl|rfl|rfl|rfl|rfl|rfl|rfl|rfl|rfl|rfl|rfl|⟨n1,n2,n3,n4,n5,n6,n7,n8,n9,n10,n11⟩
 case inr.inr.inr.inr.inr.inr.inr.inr.inr.inr.inr=>
  have f:∀c:Int,k≠c→(k==c)=false:=fun c h=>by simpa using h
  simp only[bne,f _ n1,f _ n2,f _ n3,f _ n4,f _ n5,f _ n6,f _ n7,f _ n8,f _ n9,f _ n10,f _ n11]
  simp only[n1,n2,n3,n4,n5,n6,n7,n8,n9,n10,n11,or_self,if_false,decide_false]
  cases nl<;>cases nd<;>cases c3<;>cases (i==0)<;>rfl
 all_goals (rcases r0 with r0|r0<;>(have hr0:A=_:=hr0;subst hr0))
 all_goals simp(decide:=true) only[if_true,if_false]
 all_goals (cases nl<;>cases nd<;>cases c3<;>cases (i==0)<;>first|rfl|skip)
 all_goals (first|(cases B<;>first|rfl|(exact absurd (hl0 rfl) (by decide))|(exact absurd (hd0 rfl) (by decide))|skip)|skip)
 all_goals (cases u<;>cases c1<;>cases c2<;>first|rfl|(cases (i==1)<;>rfl)|(cases decide (0≤i)<;>rfl))
theorem agZ(v:ah)(hb:aT v.lf1≤100000000):Q22 v=some v.snd:=acF FU v (by have:=gW;omega) hb
def oq(v:ah):Bool:=decide (v.cnt≤1024)&&(decide (v.dep≤16)&&v.snd)
theorem l9(v:ah)(hb:aT v.lf1≤100000000):am8 v=some (oq v):=by
 simp only[am8,aiE,Mo.den,ay,ak,au,aA,aB,agV v hb,agW v hb,agZ v hb,Option.bind_some,oq]
 rw[show decide (((min v.cnt 1025:Nat):Int)≤1024)=decide (v.cnt≤1024) by rw[Bool.eq_iff_iff];simp;omega,show decide (((min v.dep 17:Nat):Int)≤16)=decide (v.dep≤16) by rw[Bool.eq_iff_iff];simp;omega]
 cases decide (v.cnt≤1024)<;>cases decide (v.dep≤16)<;>rfl
end Go.Proofs.YtflpefkohpjjpaaGreatDoor
set_option linter.unusedSimpArgs false
set_option linter.unusedVariables false
namespace Go.Proofs.YtflpefkohpjjpaaGreatDoor
open Go.RowKit
def muR(r:aj):Nat:=if r.eH=true then 0 else((r.iI.size:Int)-r.fat).toNat+1
structure RdI (s:ByteArray) (r:aj):Prop where
 tx:r.iI=s
 a0:0≤r.fat
 a1:r.fat≤s.size
 l0:0≤r.fK
 l1:r.fK≤64
structure RC (s:ByteArray) (r r':aj) (z c:Nat):Prop where
 i:RdI s r'
 l:r'.fK=r.fK
 m0:muR r=0→muR r'=0∧z≤c
 m1:1≤muR r→muR r'<muR r∧z+100≤100*(muR r-muR r')+c
theorem RC.seq{s:ByteArray}{r r1 r2:aj}{z1 c1 z2 c2:Nat}(h:RC s r r1 z1 c1)(k:RC s r1 r2 z2 c2)(hc:c2≤100):RC s r r2 (z1+z2) (c1+c2):=by
 refine⟨k.i,k.l.trans h.l,fun h0=>?_,fun h1=>?_⟩
 ·obtain⟨a1,a2⟩:=h.m0 h0
  obtain⟨b1,b2⟩:=k.m0 a1
  exact⟨b1,by omega⟩
 ·obtain⟨a1,a2⟩:=h.m1 h1
  rcases Nat.eq_zero_or_pos (muR r1) with h0|h0
  ·obtain⟨b1,b2⟩:=k.m0 h0
   exact⟨by omega,by omega⟩
  ·obtain⟨b1,b2⟩:=k.m1 h0
   exact⟨by omega,by omega⟩
theorem RC.z{s:ByteArray}{r r':aj}{z c z' c':Nat}(h:RC s r r' z c)(hz:z'≤z)(hc:c≤c'):RC s r r' z' c':=
 ⟨h.i,h.l,fun h0=>⟨(h.m0 h0).1,by have:=(h.m0 h0).2;omega⟩,fun h1=>⟨(h.m1 h1).1,by have:=(h.m1 h1).2;omega⟩⟩
theorem atI{r:aj}(h:r.eH=true):muR r=0:=by unfold muR;rw[if_pos h]
theorem RC.bad{s:ByteArray}{r r':aj}(hi:RdI s r')(hl:r'.fK=r.fK)(hb:r'.eH=true):RC s r r' 1 1:=by
 have:=atI hb
 exact⟨hi,hl,fun _=>⟨this,Nat.le_refl _⟩,fun h=>⟨by omega,by omega⟩⟩
end Go.Proofs.YtflpefkohpjjpaaGreatDoor
set_option linter.unusedSimpArgs false
set_option linter.unusedVariables false
namespace Go.Proofs.YtflpefkohpjjpaaGreatDoor
open Go.RowKit
theorem T.atJ{α ρ:Type}{F:Int×List α→Option ((Int×List α)⊕ρ)}(Q:ρ→Prop)(step:∀(k:Nat) (m:List α),k≤100000000→m.length≤k→Tot (F ((k:Int),m)) (LP (fun v=>v.1=IntKind.wrap .i64 ((k:Int)+1)∧v.2.length≤k+1∧k<100000000) Q)):Tot (bW F FU (0,[])) Q:=
 T.apg (fun v=>v.1) (fun v=>(v.2.length:Int)≤v.1) Q rfl (Int.le_refl _) fun k s hk hs hP=>by
  obtain⟨i,m⟩:=s
  obtain rfl:i=(k:Int):=hs
  have hP:(m.length:Int)≤(k:Int):=hP
  refine T.mono (step k m hk (by omega)) ?_
  rintro(v|r) h
  ·refine⟨h.1,?_,h.2.2⟩
   have h1:=h.1
   have h2:=h.2.1
   show(v.2.length:Int)≤v.1
   rw[h1,inc k (by omega)];omega
  ·exact h
theorem iW(v:ah)(h:aT v.lf1≤100000000):Tot (am8 v) Any:=⟨_,l9 v h,trivial⟩
theorem D9(a b:ByteArray):aqU a b=some (AO a b):=rfl
theorem VQ(p:List ByteArray)(h:p.length≤100000000):aro p=some (!(p.all nameB)):=by
 have key:Tot (aiM p 0) (fun r=>match r with|.inl k=>0≤k∧p.all nameB=false|.inr _=>p.all nameB=true):=by
  refine T.qA p.length (by omega) (fun k s=>s=(k:Int)∧(p.take k).all nameB=true) _ ⟨rfl,by simp⟩ ?_ ?_
  ·rintro k s hk ⟨rfl,hv⟩
   have hx:=List.getElem?_eq_getElem hk
   simp only[CO,Mo.den,ay,ak,au,aA,aB,ltt hx,gid hx,cond_true,Option.bind_some,agX]
   cases hb:nameB p[k] with
   |false=>exact T.ret ⟨by omega,VO _ hx hb⟩
   |true=>exact T.ret ⟨inc k (by omega),by rw[xO _ hx,hv,hb];rfl⟩
  ·rintro s ⟨rfl,hv⟩
   simp only[CO,Mo.den,ay,ak,au,aA,aB,ltn,cond_false]
   exact T.ret (show p.all nameB=true by rw[List.take_length] at hv;exact hv)
 obtain⟨r,h1,hr⟩:=key
 simp only[aro,aiN,Q88,apy,Mo.den,ay,ak,au,aA,aB,h1,Option.bind_some]
 rcases r with r|r
 ·have hr:0≤r∧p.all nameB=false:=hr
  rw[hr.2]
  show some (decide (0≤r))=_
  rw[decide_eq_true hr.1];rfl
 ·have hr:p.all nameB=true:=hr
  rw[hr];rfl
theorem kY(p:List ByteArray):anj p=some (rF p):=by
 unfold anj aiO O5 O6 uZ rF
 simp only[Mo.den,ay,ak,au,aA,aB]
 by_cases h0:1≤p.length
 ·rw[decide_eq_true (show(1:Int)≤(p.length:Int) by omega), decide_eq_true h0]
  by_cases h1:p.length≤16
  ·rw[decide_eq_true (show(p.length:Int)≤16 by omega), decide_eq_true h1]
   simp only[cond_true,Option.bind_some,VQ p (by omega),Bool.not_not,Bool.true_and]
  ·rw[decide_eq_false (show ¬(p.length:Int)≤16 by omega),decide_eq_false h1];rfl
 ·rw[decide_eq_false (show ¬(1:Int)≤(p.length:Int) by omega),decide_eq_false h0];rfl
theorem LC(x:Int):0≤IntKind.wrap .u64 x∧IntKind.wrap .u64 x<18446744073709551616:=by
 rw[jT];omega
theorem auQ{v:Int}(h:0≤v):Ah .u64 v 7=((v.toNat/128:Nat):Int):=by
 obtain⟨a,rfl⟩:=Int.eq_ofNat_of_zero_le h
 rw[Int.toNat_natCast]
 show Int.fdiv (a:Int) (2^min (7:Int).toNat (IntKind.u64).bits)=_
 rw[show(2:Int)^min (7:Int).toNat (IntKind.u64).bits=((128:Nat):Int) from rfl,Int.fdiv_eq_ediv_of_nonneg _ (by omega)]
 omega
def grp(k:Nat)(v:Int):Prop:=0≤v∧v.toNat*128^k<18446744073709551616
theorem grp.next{k:Nat}{v:Int}(h:grp k v):grp (k+1) (Ah .u64 v 7):=by
 rw[auQ h.1]
 refine⟨by omega,?_⟩
 rw[Int.toNat_natCast,Nat.pow_succ,Nat.mul_comm (128^k) 128,←Nat.mul_assoc]
 exact Nat.lt_of_le_of_lt (Nat.mul_le_mul_right _ (Nat.div_mul_le_self _ _)) h.2
theorem grp.last{v:Int}(h:grp 10 v):decide ((128:Int)≤v)=false:=by
 have h1:=h.1
 have h2:=h.2
 refine decide_eq_false ?_
 have:(128:Nat)^10=1180591620717411303424:=by decide
 rw[this] at h2
 omega
theorem aph(n:Int):∃u,afR n=some u∧grp 0 u:=by
 simp only[afR,aaX,Mo.den,ay,ak,au,aA,aB]
 refine⟨_,rfl,?_⟩
 have h:∀a b:Int,0≤gX .xor .u64 a b∧gX .xor .u64 a b<18446744073709551616:=fun a b=>LC _
 have:=h (ML .u64 (IntKind.wrap .u64 n) 1) (IntKind.wrap .u64 (Ah .i64 n 63))
 exact⟨this.1,by rw[Nat.pow_zero];omega⟩
theorem jw(n:Int):Tot (Q58 n) Any:=by
 obtain⟨u,hu,hg⟩:=aph n
 unfold Q58 aiH
 simp only[Mo.den,ay,ak,au,aA,aB,hu,Option.bind_some]
 refine T.bind (R:=Any) (T.qA 10 (by omega) (fun k s=>grp k s.2) _ hg ?_ ?_) fun _ _=>T.any
 ·rintro k ⟨c,v⟩ hk hv
  simp only[qH,Mo.den,ay,ak,au,aA,aB]
  exact T.ite (fun _=>T.ret hv.next) fun _=>T.ret trivial
 ·rintro⟨c,v⟩ hv
  have hv:grp 10 v:=hv
  simp only[qH,Mo.den,ay,ak,au,aA,aB,hv.last,cond_false]
  exact T.ret trivial
end Go.Proofs.YtflpefkohpjjpaaGreatDoor
set_option linter.unusedSimpArgs false
set_option linter.unusedVariables false
namespace Go.Proofs.YtflpefkohpjjpaaGreatDoor
open Go.RowKit
theorem uz(p_kind:Int):Tot (aif p_kind) Any:=by
 show MT (Jy p_kind) Any
 repeat' (first|exact MT.any|refine MT.say ?_|refine MT.ite (fun _=>?_) (fun _=>?_))
theorem jA(p_v:ah):Tot (Q0 p_v) Any:=by
 show MT (aqY p_v) Any
 repeat' (first|exact MT.any|refine MT.say ?_|refine MT.ite (fun _=>?_) (fun _=>?_)|refine MT.lQ ?_ (fun _ _=>?_)|refine⟨(show MT _ Any from ?_)⟩)
theorem xP(p_s:aI):Tot (Q19 p_s) Any:=by
 show MT (aii p_s) Any
 repeat' (first|exact MT.any|refine MT.say ?_|refine MT.ite (fun _=>?_) (fun _=>?_)|refine MT.lQ ?_ (fun _ _=>?_)|exact⟨T.wk (jA _)⟩|refine⟨(show MT _ Any from ?_)⟩)
theorem zG(p_d:bU):Tot (Q79 p_d) Any:=by
 show MT (aij p_d) Any
 repeat' (first|exact MT.any|refine MT.say ?_|refine MT.ite (fun _=>?_) (fun _=>?_)|refine MT.lQ ?_ (fun _ _=>?_)|exact⟨T.wk (xP _)⟩|refine⟨(show MT _ Any from ?_)⟩)
theorem Bf(p_e:aP):Tot (Q9 p_e) Any:=by
 show MT (aq1 p_e) Any
 repeat' (first|exact MT.any|refine MT.say ?_|refine MT.ite (fun _=>?_) (fun _=>?_)|refine MT.lQ ?_ (fun _ _=>?_)|exact⟨T.wk (jA _)⟩|refine⟨(show MT _ Any from ?_)⟩)
theorem Bg(p_p:aO):Tot (Q17 p_p) Any:=by
 show MT (aik p_p) Any
 repeat' (first|exact MT.any|refine MT.say ?_|refine MT.ite (fun _=>?_) (fun _=>?_)|refine MT.lQ ?_ (fun _ _=>?_)|exact⟨T.wk (Bf _)⟩|exact⟨T.wk (jA _)⟩|refine⟨(show MT _ Any from ?_)⟩)
theorem zH(p_x:aQ):Tot (Q52 p_x) Any:=by
 show MT (ail p_x) Any
 repeat' (first|exact MT.any|refine MT.say ?_|refine MT.ite (fun _=>?_) (fun _=>?_)|refine MT.lQ ?_ (fun _ _=>?_)|exact⟨T.wk (Bg _)⟩|refine⟨(show MT _ Any from ?_)⟩)
theorem zJ(p_w:aG):Tot (Q25 p_w) Any:=by
 show MT (ain p_w) Any
 repeat' (first|exact MT.any|refine MT.say ?_|refine MT.ite (fun _=>?_) (fun _=>?_)|refine MT.lQ ?_ (fun _ _=>?_)|exact⟨T.wk (zH _)⟩|exact⟨T.wk (zG _)⟩|exact⟨T.wk (jA _)⟩|refine⟨(show MT _ Any from ?_)⟩)
theorem kR(p_w:aG):Tot (Q21 p_w) Any:=by
 show MT (aio p_w) Any
 refine MT.ask (R:=Any) ?_ ?_
 ·exact T.wk (uz p_w.aF)
 ·intro r269 h270 _
  refine MT.say (MT.ask (R:=Any) ?_ ?_)
  ·show MT (Jz p_w r269) Any
   refine MT.ite (fun c272=>?_) (fun c272=>?_)
   ·exact MT.say MT.any
   ·exact MT.say MT.any
  ·intro r274 h275 _
   refine MT.say (MT.ask (R:=Any) ?_ ?_)
   ·show MT (JA r269 r274) Any
    refine MT.ite (fun c277=>?_) (fun c277=>?_)
    ·exact MT.say MT.any
    ·exact MT.say MT.any
   ·intro r279 h280 _
    refine MT.say (MT.ask (R:=Any) ?_ ?_)
    ·show MT (ES r269 r279) Any
     refine MT.ite (fun c282=>?_) (fun c282=>?_)
     ·exact MT.say MT.any
     ·exact MT.say MT.any
    ·intro r284 h285 _
     refine MT.say (MT.ask (R:=Any) ?_ ?_)
     ·show MT (ET r269 r284) Any
      refine MT.ite (fun c287=>?_) (fun c287=>?_)
      ·exact MT.say MT.any
      ·exact MT.say MT.any
     ·intro r289 h290 _
      refine MT.say (MT.ask (R:=Any) ?_ ?_)
      ·show MT (EU r269 r289) Any
       refine MT.ite (fun c292=>?_) (fun c292=>?_)
       ·exact MT.say MT.any
       ·exact MT.say MT.any
      ·intro r294 h295 _
       refine MT.say (MT.ask (R:=Any) ?_ ?_)
       ·show MT (EW r269 r294) Any
        refine MT.ite (fun c297=>?_) (fun c297=>?_)
        ·exact MT.say MT.any
        ·exact MT.say MT.any
       ·intro r299 h300 _
        refine MT.say (MT.ask (R:=Any) ?_ ?_)
        ·show MT (EX r269 r299) Any
         refine MT.ite (fun c302=>?_) (fun c302=>?_)
         ·exact MT.say MT.any
         ·exact MT.say MT.any
        ·intro r304 h305 _
         refine MT.say (MT.ask (R:=Any) ?_ ?_)
         ·show MT (EY r269 r304) Any
          refine MT.ite (fun c307=>?_) (fun c307=>?_)
          ·exact MT.say MT.any
          ·exact MT.say MT.any
         ·intro r309 h310 _
          refine MT.say (MT.ask (R:=Any) ?_ ?_)
          ·show MT (EZ r269 r309) Any
           refine MT.ite (fun c312=>?_) (fun c312=>?_)
           ·exact MT.say MT.any
           ·exact MT.say MT.any
          ·intro r314 h315 _
           refine MT.say (MT.ask (R:=Any) ?_ ?_)
           ·show MT (E5 r269 r314) Any
            refine MT.ite (fun c317=>?_) (fun c317=>?_)
            ·exact MT.say MT.any
            ·exact MT.say MT.any
           ·intro r319 h320 _
            refine MT.say (MT.ask (R:=Any) ?_ ?_)
            ·exact T.wk (zJ r319)
            ·intro r585 h586 _
             exact MT.say MT.any
theorem xQ(p_w:aG):Tot (aq6 p_w) Any:=by
 show MT (aaP p_w) Any
 repeat' (first|exact MT.any|refine MT.say ?_|refine MT.ite (fun _=>?_) (fun _=>?_)|refine MT.lQ ?_ (fun _ _=>?_)|refine⟨(show MT _ Any from ?_)⟩)
theorem wH(p_l:List Int)(h_p_l:dH (p_l.map lfI)≤100000000):Tot (Q45 p_l) Any:=by
 have:=Lm p_l
 show MT (aip p_l) Any
 refine MT.say (MT.kM (R:=Any) ?_ ?_ ?_)
 ·refine T.cnt (fun _=>True) ?_
  intro k1 hk1
  show MT (tH p_l ((k1:Nat):Int)) _
  refine MT.ite (fun c752=>?_) (fun c752=>?_)
  ·have c752':=of_decide_eq_true c752
   refine MT.say (MT.ask (fE p_l ((k1:Nat):Int) (by omega) (by omega)) (fun x753 _ hx2=>?_))
   refine MT.say (MT.ask (R:=fun b_=>(b_=true→True)∧(b_=false→¬((x753:Int)<0)∧¬((8:Int)≤x753)∧True)) ?_ ?_)
   ·show MT (JB p_l ((k1:Nat):Int) x753) _
    refine MT.ite (fun c755=>?_) (fun c755=>?_)
    ·have c755':=of_decide_eq_true c755
     exact MT.say (MT.ret ⟨(fun _=>trivial),(fun h_=>by cases h_)⟩)
    ·have c755':=of_decide_eq_false c755
     exact MT.say (MT.ret ⟨(fun _=>trivial),(fun h_=>⟨(by first|assumption|omega),(of_decide_eq_false h_),trivial⟩)⟩)
   ·intro r757 h758 f_r757
    refine MT.say (MT.ask (R:=fun b_=>(b_=true→True)∧(b_=false→r757=false∧True)) ?_ ?_)
    ·show MT (JC p_l r757 ((k1:Nat):Int) x753) _
     refine MT.ite (fun c759=>?_) (fun c759=>?_)
     ·exact MT.say (MT.ret ⟨(fun _=>trivial),(fun h_=>by cases h_)⟩)
     ·have q3:=f_r757.2 (c759)
      refine MT.say (MT.ite (fun c760=>?_) (fun c760=>?_))
      ·have c760':=of_decide_eq_true c760
       refine MT.say (MT.ask (fE p_l (IntKind.wrap .i64 (((k1:Nat):Int)-1)) (by rw[w64 (by omega) (by omega)];omega) (by rw[w64 (by omega) (by omega)];omega)) (fun x761 _ hx4=>?_))
       exact MT.say (MT.ret ⟨(fun _=>trivial),(fun h_=>⟨(by first|assumption|omega),trivial⟩)⟩)
      ·have c760':=of_decide_eq_false c760
       exact MT.say (MT.ret ⟨(fun h_=>by cases h_),(fun h_=>⟨(by first|assumption|omega),trivial⟩)⟩)
    ·intro r764 h765 f_r764
     refine MT.say (MT.ite (fun c766=>?_) (fun c766=>?_))
     ·exact MT.say (MT.ret trivial)
     ·have q5:=f_r764.2 (c766)
      have q6:=f_r757.2 (q5.1)
      exact MT.say (MT.ret ⟨rfl,by omega⟩)
  ·have c752':=of_decide_eq_false c752
   exact MT.say (MT.ret trivial)
 ·intro o769 h768 _
  exact MT.say MT.any
 ·intro o770 h768 _
  first|exact MT.say MT.any|exact MT.say (MT.say MT.any)
theorem vW(p_v:ah)(h_p_v:aT p_v.lf1≤100000000):Tot (Q83 p_v) Any:=by
 have:=dW p_v
 show MT (aiF p_v) Any
 repeat' (first|exact MT.any|refine MT.say ?_|refine MT.ite (fun _=>?_) (fun _=>?_)|refine MT.lQ ?_ (fun _ _=>?_)|exact⟨T.wk (iW _ (by first|omega|decide))⟩|refine⟨(show MT _ Any from ?_)⟩)
theorem Ea(p_x:Int):Tot (arf p_x) Any:=by
 show MT (aaT p_x) Any
 repeat' (first|exact MT.any|refine MT.say ?_|refine MT.ite (fun _=>?_) (fun _=>?_))
theorem jY(p_x:Int)(p_y:Int):Tot (am9 p_x p_y) Any:=by
 show MT (aaU p_x p_y) Any
 repeat' (first|exact MT.any|refine MT.say ?_|refine MT.ite (fun _=>?_) (fun _=>?_)|refine MT.lQ ?_ (fun _ _=>?_)|exact⟨T.wk (Ea _)⟩)
theorem qO(n_:Nat):∀(p_a:ah) (p_b:ah),aT p_a.lf1<n_→aT p_a.lf1≤100000000→aT p_b.lf1≤100000000→Tot ((kV n_).m1 p_a p_b) Any:=by
 induction n_ with
 |zero=>intro p_a p_b h;omega
 |succ n_ ih=>
  intro p_a p_b h_ h_p_a h_p_b
  have:=dW p_a
  have:=jf p_a.aW
  have:=iQ p_a.aU
  have:=dW p_b
  have:=jf p_b.aW
  have:=iQ p_b.aU
  show MT (JG (kV n_) p_a p_b) Any
  refine MT.ite (fun c1664=>?_) (fun c1664=>?_)
  ·have c1664':¬(p_a.aF=p_b.aF):=by simpa using c1664
   refine MT.say (MT.ask (R:=Any) ?_ ?_)
   ·exact T.wk (jY p_a.aF p_b.aF )
   ·intro r1667 h1668 _
    exact MT.say MT.any
  ·have c1664':p_a.aF=p_b.aF:=by simpa using c1664
   refine MT.say (MT.ask (R:=Any) ?_ ?_)
   ·show MT (JE (kV n_) p_a p_b) Any
    refine MT.ite (fun c1867=>?_) (fun c1867=>?_)
    ·have c1867':p_a.aF=3:=by simpa using c1867
     exact MT.say MT.any
    ·have c1867':¬(p_a.aF=3):=by simpa using c1867
     refine MT.say (MT.ite (fun c1868=>?_) (fun c1868=>?_))
     ·have c1868':p_a.aF=9:=by simpa using c1868
      exact MT.say MT.any
     ·have c1868':¬(p_a.aF=9):=by simpa using c1868
      exact MT.say MT.any
   ·intro r1870 h1871 _
    refine MT.say (MT.ite (fun c1953=>?_) (fun c1953=>?_))
    ·refine MT.say (MT.ask (R:=Any) ?_ ?_)
     ·exact T.wk (jY p_a.fA p_b.fA )
     ·intro r1956 h1957 _
      exact MT.say MT.any
    ·refine MT.say (MT.ask (R:=Any) ?_ ?_)
     ·show MT (JF (kV n_) p_a p_b) Any
      refine MT.ite (fun c1958=>?_) (fun c1958=>?_)
      ·have c1958':p_a.aF=4:=by simpa using c1958
       exact MT.say MT.any
      ·have c1958':¬(p_a.aF=4):=by simpa using c1958
       refine MT.say (MT.ite (fun c1959=>?_) (fun c1959=>?_))
       ·have c1959':p_a.aF=7:=by simpa using c1959
        exact MT.say MT.any
       ·have c1959':¬(p_a.aF=7):=by simpa using c1959
        exact MT.say MT.any
     ·intro r1961 h1962 _
      refine MT.say (MT.ite (fun c2036=>?_) (fun c2036=>?_))
      ·refine MT.say (MT.ask (R:=Any) ?_ ?_)
       ·exact T.wk (T.val (D9 p_a.fText p_b.fText))
       ·intro r2039 h2040 _
        exact MT.say MT.any
      ·refine MT.say (MT.ite (fun c2111=>?_) (fun c2111=>?_))
       ·have c2111':p_a.aF=6:=by simpa using c2111
        refine MT.say (MT.kM (R:=Any) ?_ ?_ ?_)
        ·refine T.cnt (fun _=>True) ?_
         intro k7 hk7
         show MT (tJ (kV n_) p_a p_b ((k7:Nat):Int)) _
         refine MT.ite (fun c2121=>?_) (fun c2121=>?_)
         ·have c2121':=of_decide_eq_true c2121
          refine MT.say (MT.ask (fE p_a.aW ((k7:Nat):Int) (by omega) (by omega)) (fun x2122 _ hx8=>?_))
          have:=jK hx8
          have:=dW x2122
          refine MT.say (MT.ask (fE p_b.aW ((k7:Nat):Int) (by omega) (by omega)) (fun x2124 _ hx9=>?_))
          have:=jK hx9
          have:=dW x2124
          refine MT.say (MT.ask (R:=Any) ?_ ?_)
          ·exact(ih x2122 x2124 (by omega) (by first|omega|(simp;done)|decide) (by first|omega|(simp;done)|decide))
          ·intro r2126 h2127 _
           refine MT.say (MT.ite (fun c2128=>?_) (fun c2128=>?_))
           ·have c2128':¬(r2126=0):=by simpa using c2128
            exact MT.say (MT.ret trivial)
           ·have c2128':r2126=0:=by simpa using c2128
            exact MT.say (MT.ret ⟨rfl,by omega⟩)
         ·have c2121':=of_decide_eq_false c2121
          exact MT.say (MT.ret trivial)
        ·intro o2134 h2133 _
         exact MT.say MT.any
        ·intro o2135 h2133 _
         refine MT.say (MT.ask (R:=Any) ?_ ?_)
         ·exact T.wk (jY (p_a.aW.length:Int) (p_b.aW.length:Int) )
         ·intro r2138 h2139 _
          exact MT.say MT.any
       ·have c2111':¬(p_a.aF=6):=by simpa using c2111
        refine MT.say (MT.ite (fun c2183=>?_) (fun c2183=>?_))
        ·have c2183':p_a.aF=5:=by simpa using c2183
         refine MT.say (MT.kM (R:=Any) ?_ ?_ ?_)
         ·refine T.cnt (fun _=>True) ?_
          intro k10 hk10
          show MT (tK (kV n_) p_a p_b ((k10:Nat):Int)) _
          refine MT.ite (fun c2200=>?_) (fun c2200=>?_)
          ·have c2200':=of_decide_eq_true c2200
           refine MT.say (MT.ask (fE p_a.aU ((k10:Nat):Int) (by omega) (by omega)) (fun x2201 _ hx11=>?_))
           have:=iC hx11
           have:=fV x2201
           refine MT.say (MT.ask (fE p_b.aU ((k10:Nat):Int) (by omega) (by omega)) (fun x2203 _ hx12=>?_))
           have:=iC hx12
           have:=fV x2203
           refine MT.say (MT.ask (R:=Any) ?_ ?_)
           ·exact T.wk (T.val (D9 x2201.fName x2203.fName))
           ·intro r2205 h2206 _
            refine MT.say (MT.ite (fun c2207=>?_) (fun c2207=>?_))
            ·have c2207':¬(r2205=0):=by simpa using c2207
             exact MT.say (MT.ret trivial)
            ·have c2207':r2205=0:=by simpa using c2207
             refine MT.say (MT.ask (fE p_a.aU ((k10:Nat):Int) (by omega) (by omega)) (fun x2208 _ hx13=>?_))
             have:=iC hx13
             have:=fV x2208
             have:=dW x2208.fValue
             refine MT.say (MT.ask (fE p_b.aU ((k10:Nat):Int) (by omega) (by omega)) (fun x2210 _ hx14=>?_))
             have:=iC hx14
             have:=fV x2210
             have:=dW x2210.fValue
             refine MT.say (MT.ask (R:=Any) ?_ ?_)
             ·exact(ih x2208.fValue x2210.fValue (by omega) (by first|omega|(simp;done)|decide) (by first|omega|(simp;done)|decide))
             ·intro r2212 h2213 _
              refine MT.say (MT.ite (fun c2214=>?_) (fun c2214=>?_))
              ·have c2214':¬(r2212=0):=by simpa using c2214
               exact MT.say (MT.ret trivial)
              ·have c2214':r2212=0:=by simpa using c2214
               exact MT.say (MT.ret ⟨rfl,by omega⟩)
          ·have c2200':=of_decide_eq_false c2200
           exact MT.say (MT.ret trivial)
         ·intro o2222 h2221 _
          exact MT.say MT.any
         ·intro o2223 h2221 _
          refine MT.say (MT.ask (R:=Any) ?_ ?_)
          ·exact T.wk (jY (p_a.aU.length:Int) (p_b.aU.length:Int) )
          ·intro r2226 h2227 _
           exact MT.say MT.any
        ·have c2183':¬(p_a.aF=5):=by simpa using c2183
         exact MT.say MT.any
theorem rH(p_a:ah)(p_b:ah)(h_p_a:aT p_a.lf1≤100000000)(h_p_b:aT p_b.lf1≤100000000):Tot (Q33 p_a p_b) Any:=qO FU p_a p_b (by have:=gW;omega) h_p_a h_p_b
theorem Hu(p_a:ah)(p_b:ah)(h_p_a:aT p_a.lf1≤100000000)(h_p_b:aT p_b.lf1≤100000000):Tot (anb p_a p_b) Any:=by
 have:=dW p_a
 have:=dW p_b
 show MT (aaW p_a p_b) Any
 repeat' (first|exact MT.any|refine MT.say ?_|refine MT.ite (fun _=>?_) (fun _=>?_)|refine MT.lQ ?_ (fun _ _=>?_)|exact⟨T.wk (rH _ _ (by first|omega|decide) (by first|omega|decide))⟩)
theorem Eb(n_:Nat):∀(p_v:ah),aT p_v.lf1<n_→aT p_v.lf1≤100000000→Tot ((qj n_).m1 p_v) Any:=by
 induction n_ with
 |zero=>intro p_v h;omega
 |succ n_ ih=>
  intro p_v h_ h_p_v
  have:=dW p_v
  have:=jf p_v.aW
  have:=iQ p_v.aU
  show MT (XI (qj n_) p_v) Any
  refine MT.ask (R:=Any) ?_ ?_
  ·show MT (E8 (qj n_) p_v) Any
   refine MT.ask (R:=Any) ?_ ?_
   ·show MT (JI (qj n_) p_v) Any
    refine MT.ite (fun c2355=>?_) (fun c2355=>?_)
    ·have c2355':p_v.aF=3:=by simpa using c2355
     exact MT.say MT.any
    ·have c2355':¬(p_v.aF=3):=by simpa using c2355
     exact MT.say MT.any
   ·intro r2357 h2358 _
    refine MT.say (MT.ite (fun c2359=>?_) (fun c2359=>?_))
    ·refine MT.say (MT.ask (R:=Any) ?_ ?_)
     ·exact T.wk (jw p_v.fA )
     ·intro r2360 h2361 _
      exact MT.say MT.any
    ·refine MT.say (MT.ite (fun c2362=>?_) (fun c2362=>?_))
     ·have c2362':p_v.aF=9:=by simpa using c2362
      exact MT.say MT.any
     ·have c2362':¬(p_v.aF=9):=by simpa using c2362
      refine MT.say (MT.ask (R:=Any) ?_ ?_)
      ·show MT (JJ (qj n_) p_v) Any
       refine MT.ite (fun c2363=>?_) (fun c2363=>?_)
       ·have c2363':p_v.aF=4:=by simpa using c2363
        exact MT.say MT.any
       ·have c2363':¬(p_v.aF=4):=by simpa using c2363
        exact MT.say MT.any
      ·intro r2365 h2366 _
       refine MT.say (MT.ite (fun c2367=>?_) (fun c2367=>?_))
       ·refine MT.say (MT.ask (R:=Any) ?_ ?_)
        ·exact T.wk (jw (p_v.fText.size:Int) )
        ·intro r2368 h2369 _
         exact MT.say MT.any
       ·refine MT.say (MT.ite (fun c2370=>?_) (fun c2370=>?_))
        ·have c2370':p_v.aF=8:=by simpa using c2370
         exact MT.say MT.any
        ·have c2370':¬(p_v.aF=8):=by simpa using c2370
         refine MT.say (MT.ite (fun c2371=>?_) (fun c2371=>?_))
         ·have c2371':p_v.aF=6:=by simpa using c2371
          refine MT.say (MT.ask (R:=Any) ?_ ?_)
          ·exact T.wk (jw (p_v.aW.length:Int) )
          ·intro r2372 h2373 _
           refine MT.say (MT.ask (R:=Any) ?_ ?_)
           ·refine T.auP (fun _=>True) ?_
            intro v2379 k15 hk15
            show MT (tN (qj n_) p_v (v2379,((k15:Nat):Int))) _
            refine MT.ite (fun c2381=>?_) (fun c2381=>?_)
            ·have c2381':=of_decide_eq_true c2381
             refine MT.say (MT.ask (fE p_v.aW ((k15:Nat):Int) (by omega) (by omega)) (fun x2382 _ hx16=>?_))
             have:=jK hx16
             have:=dW x2382
             refine MT.say (MT.ask (R:=Any) ?_ ?_)
             ·exact(ih x2382 (by omega) (by first|omega|(simp;done)|decide))
             ·intro r2384 h2385 _
              exact MT.say (MT.ret ⟨rfl,by omega⟩)
            ·have c2381':=of_decide_eq_false c2381
             exact MT.say (MT.ret trivial)
           ·intro r2387 h2388 _
            exact MT.say MT.any
         ·have c2371':¬(p_v.aF=6):=by simpa using c2371
          refine MT.say (MT.ite (fun c2389=>?_) (fun c2389=>?_))
          ·have c2389':p_v.aF=5:=by simpa using c2389
           refine MT.say (MT.ask (R:=Any) ?_ ?_)
           ·exact T.wk (jw (p_v.aU.length:Int) )
           ·intro r2390 h2391 _
            refine MT.say (MT.ask (R:=Any) ?_ ?_)
            ·refine T.auP (fun _=>True) ?_
             intro v2399 k17 hk17
             show MT (tV (qj n_) p_v (v2399,((k17:Nat):Int))) _
             refine MT.ite (fun c2401=>?_) (fun c2401=>?_)
             ·have c2401':=of_decide_eq_true c2401
              refine MT.say (MT.ask (fE p_v.aU ((k17:Nat):Int) (by omega) (by omega)) (fun x2402 _ hx18=>?_))
              have:=iC hx18
              have:=fV x2402
              have:=dW x2402.fValue
              refine MT.say (MT.ask (R:=Any) ?_ ?_)
              ·exact T.wk (jw (x2402.fName.size:Int) )
              ·intro r2404 h2405 _
               refine MT.say (MT.ask (R:=Any) ?_ ?_)
               ·exact(ih x2402.fValue (by omega) (by first|omega|(simp;done)|decide))
               ·intro r2406 h2407 _
                exact MT.say (MT.ret ⟨rfl,by omega⟩)
             ·have c2401':=of_decide_eq_false c2401
              exact MT.say (MT.ret trivial)
            ·intro r2409 h2410 _
             exact MT.say MT.any
          ·have c2389':¬(p_v.aF=5):=by simpa using c2389
           exact MT.say MT.any
  ·intro r2417 h2418 _
   exact MT.say MT.any
theorem Gp(p_v:ah)(h_p_v:aT p_v.lf1≤100000000):Tot (Q30 p_v) Any:=Eb FU p_v (by have:=gW;omega) h_p_v
theorem Gq(p_v:ah)(h_p_v:aT p_v.lf1≤100000000):Tot (aiI p_v) Any:=by
 have:=dW p_v
 show MT (aaZ p_v) Any
 repeat' (first|exact MT.any|refine MT.say ?_|refine MT.ite (fun _=>?_) (fun _=>?_)|refine MT.lQ ?_ (fun _ _=>?_)|exact⟨T.wk (Gp _ (by first|omega|decide))⟩|exact⟨T.wk (iW _ (by first|omega|decide))⟩)
theorem nC(p_doc:ah)(p_key:ah)(h_p_doc:aT p_doc.lf1≤100000000)(h_p_key:aT p_key.lf1≤100000000):Tot (Q74 p_doc p_key) Any:=by
 have:=dW p_doc
 have:=iQ p_doc.aU
 have:=dW p_key
 show MT (aiJ p_doc p_key) Any
 refine MT.ask (R:=fun b_=>(b_=true→True)∧(b_=false→p_doc.aF=5∧True)) ?_ ?_
 ·show MT (JK p_doc p_key) _
  refine MT.ite (fun c1625=>?_) (fun c1625=>?_)
  ·have c1625':¬(p_doc.aF=5):=by simpa using c1625
   exact MT.say (MT.ret ⟨(fun _=>trivial),(fun h_=>by cases h_)⟩)
  ·have c1625':p_doc.aF=5:=by simpa using c1625
   refine MT.say (MT.ask (R:=Any) ?_ ?_)
   ·exact T.wk (iW p_doc (by first|omega|(simp;done)|decide))
   ·intro r1626 h1627 _
    exact MT.say (MT.ret ⟨(fun _=>trivial),(fun h_=>⟨(by first|assumption|omega),trivial⟩)⟩)
 ·intro r1629 h1630 f_r1629
  refine MT.say (MT.ask (R:=fun b_=>(b_=true→True)∧(b_=false→r1629=false∧¬((p_doc.aU.length:Int)=0)∧True)) ?_ ?_)
  ·show MT (JL p_doc p_key r1629) _
   refine MT.ite (fun c1631=>?_) (fun c1631=>?_)
   ·exact MT.say (MT.ret ⟨(fun _=>trivial),(fun h_=>by cases h_)⟩)
   ·have q19:=f_r1629.2 (c1631)
    first|exact MT.say (MT.ret ⟨(fun _=>trivial),(fun h_=>⟨(by first|assumption|omega),(by simpa using h_),trivial⟩)⟩)|exact MT.say (MT.say (MT.ret ⟨(fun _=>trivial),(fun h_=>⟨(by first|assumption|omega),(by simpa using h_),trivial⟩)⟩))
  ·intro r1633 h1634 f_r1633
   refine MT.say (MT.ite (fun c1636=>?_) (fun c1636=>?_))
   ·exact MT.say MT.any
   ·have q20:=f_r1633.2 (c1636)
    have q21:=f_r1629.2 (q20.1)
    refine MT.say (MT.ask (R:=Any) ?_ ?_)
    ·show MT (Fa p_doc p_key) Any
     refine MT.ask (fE p_doc.aU 0 (by omega) (by omega)) (fun x2232 _ hx22=>?_)
     have:=iC hx22
     have:=fV x2232
     refine MT.say (MT.ite (fun c2234=>?_) (fun c2234=>?_))
     ·exact MT.say MT.any
     ·refine MT.say (MT.ask (fE p_doc.aU 0 (by omega) (by omega)) (fun x2235 _ hx23=>?_))
      have:=iC hx23
      have:=fV x2235
      have:=dW x2235.fValue
      refine MT.say (MT.ask (R:=Any) ?_ ?_)
      ·exact T.wk (Hu x2235.fValue p_key (by first|omega|(simp;done)|decide) (by first|omega|(simp;done)|decide))
      ·intro r2237 h2238 _
       exact MT.say MT.any
    ·intro r2242 h2243 _
     refine MT.say (MT.ite (fun c2245=>?_) (fun c2245=>?_))
     ·exact MT.say MT.any
     ·refine MT.say (MT.ask (R:=Any) ?_ ?_)
      ·exact T.wk (Gq p_doc (by first|omega|(simp;done)|decide))
      ·intro r2423 h2424 _
       refine MT.say (MT.ite (fun c2426=>?_) (fun c2426=>?_))
       ·have c2426':¬(r2423.2=0):=by simpa using c2426
        exact MT.say MT.any
       ·have c2426':r2423.2=0:=by simpa using c2426
        refine MT.say (MT.ite (fun c2428=>?_) (fun c2428=>?_))
        ·have c2428':=of_decide_eq_true c2428
         exact MT.say MT.any
        ·have c2428':=of_decide_eq_false c2428
         exact MT.say MT.any
theorem zK(p_w:aG)(h_p_w:aT p_w.lf1≤100000000):Tot (arj p_w) Any:=by
 have:=kQ p_w
 have:=dW p_w.fU
 have:=dW p_w.aU
 have:=dW p_w.dK
 show MT (aa0 p_w) Any
 repeat' (first|exact MT.any|refine MT.say ?_|refine MT.ite (fun _=>?_) (fun _=>?_)|refine MT.lQ ?_ (fun _ _=>?_)|refine MT.ap6 ?_ (fun _ _=>?_) (fun _ _=>?_)|exact⟨T.wk (vW _ (by first|omega|decide))⟩|exact⟨T.wk (nC _ _ (by first|omega|decide) (by first|omega|decide))⟩|exact⟨T.wk (jA _)⟩|refine⟨(show MT _ Any from ?_)⟩)
theorem uD(p_s1:List ByteArray)(p_s2:List ByteArray)(h_p_s1:dH (p_s1.map lfS)≤100000000)(h_p_s2:dH (p_s2.map lfS)≤100000000):Tot (Q87 p_s1 p_s2) Any:=by
 have:=iy p_s1
 have:=iy p_s2
 show MT (aiP p_s1 p_s2) Any
 refine MT.say (MT.ite (fun c2833=>?_) (fun c2833=>?_))
 ·have c2833':¬((p_s1.length:Int)=(p_s2.length:Int)):=by simpa using c2833
  exact MT.say MT.any
 ·have c2833':(p_s1.length:Int)=(p_s2.length:Int):=by simpa using c2833
  refine MT.say (MT.kM (R:=Any) ?_ ?_ ?_)
  ·refine T.cnt (fun _=>True) ?_
   intro k24 hk24
   show MT (wU p_s1 p_s2 ((k24:Nat):Int)) _
   refine MT.ite (fun c2869=>?_) (fun c2869=>?_)
   ·have c2869':=of_decide_eq_true c2869
    refine MT.say (MT.ask (fE p_s1 ((k24:Nat):Int) (by omega) (by omega)) (fun x2870 _ hx25=>?_))
    have:=IC hx25
    refine MT.say (MT.ask (fE p_s2 ((k24:Nat):Int) (by omega) (by omega)) (fun x2872 _ hx26=>?_))
    have:=IC hx26
    refine MT.say (MT.ite (fun c2874=>?_) (fun c2874=>?_))
    ·exact MT.say (MT.ret trivial)
    ·exact MT.say (MT.ret ⟨rfl,by omega⟩)
   ·have c2869':=of_decide_eq_false c2869
    exact MT.say (MT.ret trivial)
  ·intro o2877 h2876 _
   exact MT.say MT.any
  ·intro o2878 h2876 _
   exact MT.say MT.any
theorem Hw(p_l:List bn)(h_p_l:dH (p_l.map bn.lf)≤100000000):Tot (Q81 p_l) Any:=by
 have:=ny p_l
 show MT (aiQ p_l) Any
 refine MT.say (MT.ite (fun c2811=>?_) (fun c2811=>?_))
 ·have c2811':=of_decide_eq_true c2811
  exact MT.say MT.any
 ·have c2811':=of_decide_eq_false c2811
  refine MT.say (MT.kM (R:=Any) ?_ ?_ ?_)
  ·refine T.cnt (fun _=>True) ?_
   intro k27 hk27
   have:=mX bn.lf p_l (((k27:Nat):Int).toNat)
   have:=ny (p_l.take ((k27:Nat):Int).toNat)
   show MT (wW p_l ((k27:Nat):Int)) _
   refine MT.ite (fun c2996=>?_) (fun c2996=>?_)
   ·have c2996':=of_decide_eq_true c2996
    refine MT.say (MT.ask (fE p_l ((k27:Nat):Int) (by omega) (by omega)) (fun x2997 _ hx28=>?_))
    have:=zq hx28
    have:=oJ x2997
    have:=iy x2997.cO
    refine MT.say (MT.ask (R:=Any) ?_ ?_)
    ·exact T.wk (T.val (kY x2997.cO))
    ·intro r2999 h3000 _
     refine MT.say (MT.ite (fun c3001=>?_) (fun c3001=>?_))
     ·exact MT.say (MT.ret trivial)
     ·refine MT.say (MT.grd (by omega) (fun _=>?_))
      refine MT.say (MT.kM (R:=Any) ?_ ?_ ?_)
      ·refine T.cnt (fun _=>True) ?_
       intro k29 hk29
       have:=mX bn.lf p_l (((k27:Nat):Int).toNat)
       have:=ny (p_l.take ((k27:Nat):Int).toNat)
       show MT (wV p_l ((k27:Nat):Int) x2997 ((k29:Nat):Int)) _
       refine MT.ite (fun c3010=>?_) (fun c3010=>?_)
       ·have c3010':=of_decide_eq_true c3010
        refine MT.say (MT.ask (fE (p_l.take ((k27:Nat):Int).toNat) ((k29:Nat):Int) (by omega) (by omega)) (fun x3011 _ hx30=>?_))
        have:=mX bn.lf p_l (((k27:Nat):Int).toNat)
        have:=zq hx30
        have:=oJ x3011
        have:=iy x3011.cO
        refine MT.say (MT.ask (R:=Any) ?_ ?_)
        ·exact T.wk (uD x3011.cO x2997.cO (by first|omega|(simp;done)|decide) (by first|omega|(simp;done)|decide))
        ·intro r3013 h3014 _
         refine MT.say (MT.ite (fun c3015=>?_) (fun c3015=>?_))
         ·exact MT.say (MT.ret trivial)
         ·exact MT.say (MT.ret ⟨rfl,by omega⟩)
       ·have c3010':=of_decide_eq_false c3010
        exact MT.say (MT.ret trivial)
      ·intro o3018 h3017 _
       exact MT.say (MT.ret trivial)
      ·intro o3019 h3017 _
       exact MT.say (MT.ret ⟨rfl,by omega⟩)
   ·have c2996':=of_decide_eq_false c2996
    exact MT.say (MT.ret trivial)
  ·intro o3023 h3022 _
   exact MT.say MT.any
  ·intro o3024 h3022 _
   exact MT.say MT.any
theorem zM(n_:Nat):∀(p_p:aO) (p_level:Int) (p_b0:Int),aT p_p.lf1<n_→aT p_p.lf1≤100000000→Tot ((wY n_).m1 p_p p_level p_b0) Any:=by
 induction n_ with
 |zero=>intro p_p p_level p_b0 h;omega
 |succ n_ ih=>
  intro p_p p_level p_b0 h_ h_p_p
  have:=iw p_p
  have:=oL p_p.bC
  show MT (JM (wY n_) p_p p_level p_b0) Any
  refine MT.ask (R:=fun b_=>(b_=true→True)∧(b_=false→¬((16:Int)<p_level)∧¬(p_b0=256)∧True)) ?_ ?_
  ·show MT (CQ (wY n_) p_b0 p_level p_p) _
   refine MT.ite (fun c3050=>?_) (fun c3050=>?_)
   ·have c3050':=of_decide_eq_true c3050
    exact MT.say (MT.ret ⟨(fun _=>trivial),(fun h_=>by cases h_)⟩)
   ·have c3050':=of_decide_eq_false c3050
    exact MT.say (MT.ret ⟨(fun _=>trivial),(fun h_=>⟨(by first|assumption|omega),(by simpa using h_),trivial⟩)⟩)
  ·intro r3052 h3053 f_r3052
   refine MT.say (MT.ite (fun c3055=>?_) (fun c3055=>?_))
   ·exact MT.say MT.any
   ·have q31:=f_r3052.2 (c3055)
    refine MT.say (MT.kM (R:=Any) ?_ ?_ ?_)
    ·refine T.MV (fun _=>True) ?_
     intro k32 v3094 hk32
     show MT (wX (wY n_) p_level p_p (((k32:Nat):Int),v3094)) _
     refine MT.ite (fun c3095=>?_) (fun c3095=>?_)
     ·have c3095':=of_decide_eq_true c3095
      refine MT.say (MT.ask (fE p_p.bC ((k32:Nat):Int) (by omega) (by omega)) (fun x3096 _ hx33=>?_))
      have:=uw hx33
      have:=iw x3096
      refine MT.say (MT.ask (R:=Any) ?_ ?_)
      ·exact(ih x3096 (IntKind.wrap .i64 (p_level+1)) v3094 (by omega) (by first|omega|(simp;done)|decide))
      ·intro r3098 h3099 _
       refine MT.say (MT.ite (fun c3100=>?_) (fun c3100=>?_))
       ·exact MT.say (MT.ret trivial)
       ·exact MT.say (MT.ret ⟨rfl,by omega⟩)
     ·have c3095':=of_decide_eq_false c3095
      exact MT.say (MT.ret trivial)
    ·intro o3105 h3104 _
     exact MT.say MT.any
    ·intro o3106 h3104 _
     exact MT.say MT.any
theorem Bh(p_p:aO)(p_level:Int)(p_b0:Int)(h_p_p:aT p_p.lf1≤100000000):Tot (Q62 p_p p_level p_b0) Any:=zM FU p_p p_level p_b0 (by have:=gW;omega) h_p_p
theorem oz(p_op:Int)(p_n:Int):Tot (aiR p_op p_n) Any:=by
 show MT (aa3 p_op p_n) Any
 repeat' (first|exact MT.any|refine MT.say ?_|refine MT.ite (fun _=>?_) (fun _=>?_)|refine MT.lQ ?_ (fun _ _=>?_)|refine⟨(show MT _ Any from ?_)⟩)
theorem iU(p_op:Int):Tot (Q90 p_op) Any:=by
 show MT (adS p_op) Any
 repeat' (first|exact MT.any|refine MT.say ?_|refine MT.ite (fun _=>?_) (fun _=>?_))
theorem oC(p_p:aO)(h_p_p:aT p_p.lf1≤100000000):Tot (Q41 p_p) Any:=by
 have:=iw p_p
 show MT (aiS p_p) Any
 repeat' (first|exact MT.any|refine MT.say ?_|refine MT.ite (fun _=>?_) (fun _=>?_)|refine MT.lQ ?_ (fun _ _=>?_)|refine⟨(show MT _ Any from ?_)⟩)
theorem jU(p_op:Int):Tot (Nc p_op) Any:=by
 show MT (Uj p_op) Any
 repeat' (first|exact MT.any|refine MT.say ?_|refine MT.ite (fun _=>?_) (fun _=>?_))
theorem lq(p_op:Int):Tot (XM p_op) Any:=by
 show MT (Uk p_op) Any
 repeat' (first|exact MT.any|refine MT.say ?_|refine MT.ite (fun _=>?_) (fun _=>?_))
theorem jL(p_op:Int):Tot (XO p_op) Any:=by
 show MT (Um p_op) Any
 repeat' (first|exact MT.any|refine MT.say ?_|refine MT.ite (fun _=>?_) (fun _=>?_)|refine MT.lQ ?_ (fun _ _=>?_)|exact⟨T.wk (lq _)⟩)
theorem pO(p_n:Int):Tot (Un p_n) Any:=by
 show MT (JO p_n) Any
 repeat' (first|exact MT.any|refine MT.say ?_|refine MT.ite (fun _=>?_) (fun _=>?_))
theorem Hy(p_p:cu)(h_p_p:aT p_p.lf1≤100000000):Tot (afS p_p) Any:=by
 have:=A8 p_p
 show MT (Ur p_p) Any
 repeat' (first|exact MT.any|refine MT.say ?_|refine MT.ite (fun _=>?_) (fun _=>?_)|refine MT.lQ ?_ (fun _ _=>?_)|exact⟨T.wk (pO _)⟩)
theorem Nk(p_s:dQ)(h_p_s:aT p_s.lf1≤100000000):Tot (Q95 p_s) Any:=by
 have:=qM p_s
 have:=vO p_s.bF
 show MT (aiT p_s) Any
 refine MT.say (MT.ask (R:=Any) ?_ ?_)
 ·show MT (JQ p_s) Any
  refine MT.ite (fun c3440=>?_) (fun c3440=>?_)
  ·have c3440':p_s.aF=1:=by simpa using c3440
   refine MT.say (MT.ite (fun c3441=>?_) (fun c3441=>?_))
   ·have c3441':(p_s.bF.length:Int)=2:=by simpa using c3441
    exact MT.say MT.any
   ·have c3441':¬((p_s.bF.length:Int)=2):=by simpa using c3441
    exact MT.say MT.any
  ·have c3440':¬(p_s.aF=1):=by simpa using c3440
   refine MT.say (MT.ite (fun c3442=>?_) (fun c3442=>?_))
   ·have c3442':p_s.aF=2:=by simpa using c3442
    refine MT.say (MT.ite (fun c3443=>?_) (fun c3443=>?_))
    ·have c3443':(p_s.bF.length:Int)=1:=by simpa using c3443
     refine MT.say (MT.ask (R:=Any) ?_ ?_)
     ·exact T.wk (pO p_s.fR )
     ·intro r3444 h3445 _
      exact MT.say MT.any
    ·have c3443':¬((p_s.bF.length:Int)=1):=by simpa using c3443
     exact MT.say MT.any
   ·have c3442':¬(p_s.aF=2):=by simpa using c3442
    refine MT.say (MT.ite (fun c3446=>?_) (fun c3446=>?_))
    ·have c3446':p_s.aF=3:=by simpa using c3446
     refine MT.say (MT.ite (fun c3447=>?_) (fun c3447=>?_))
     ·have c3447':=of_decide_eq_true c3447
      refine MT.say (MT.ite (fun c3448=>?_) (fun c3448=>?_))
      ·have c3448':=of_decide_eq_true c3448
       exact MT.say MT.any
      ·have c3448':=of_decide_eq_false c3448
       exact MT.say MT.any
     ·have c3447':=of_decide_eq_false c3447
      exact MT.say MT.any
    ·have c3446':¬(p_s.aF=3):=by simpa using c3446
     exact MT.say MT.any
 ·intro r3450 h3451 _
  refine MT.say (MT.ite (fun c3453=>?_) (fun c3453=>?_))
  ·exact MT.say MT.any
  ·refine MT.say (MT.kM (R:=Any) ?_ ?_ ?_)
   ·refine T.cnt (fun _=>True) ?_
    intro k34 hk34
    show MT (wZ p_s ((k34:Nat):Int)) _
    refine MT.ite (fun c3494=>?_) (fun c3494=>?_)
    ·have c3494':=of_decide_eq_true c3494
     refine MT.say (MT.ask (fE p_s.bF ((k34:Nat):Int) (by omega) (by omega)) (fun x3495 _ hx35=>?_))
     have:=A8 x3495
     refine MT.say (MT.ask (R:=Any) ?_ ?_)
     ·exact T.wk (Hy x3495 (by first|omega|(simp;done)|decide))
     ·intro r3497 h3498 _
      refine MT.say (MT.ite (fun c3499=>?_) (fun c3499=>?_))
      ·exact MT.say (MT.ret trivial)
      ·exact MT.say (MT.ret ⟨rfl,by omega⟩)
    ·have c3494':=of_decide_eq_false c3494
     exact MT.say (MT.ret trivial)
   ·intro o3502 h3501 _
    exact MT.say MT.any
   ·intro o3503 h3501 _
    exact MT.say MT.any
theorem pR(p_v:ah):Tot (ano p_v) Any:=by
 show MT (aa7 p_v) Any
 repeat' (first|exact MT.any|refine MT.say ?_|refine MT.ite (fun _=>?_) (fun _=>?_)|refine MT.lQ ?_ (fun _ _=>?_)|refine⟨(show MT _ Any from ?_)⟩)
theorem zN(p_op:Int):Tot (arA p_op) Any:=by
 show MT (aa8 p_op) Any
 repeat' (first|exact MT.any|refine MT.say ?_|refine MT.ite (fun _=>?_) (fun _=>?_)|refine MT.lQ ?_ (fun _ _=>?_)|refine⟨(show MT _ Any from ?_)⟩)
theorem sJ(p_e:aP):Tot (Q93 p_e) Any:=by
 show MT (adW p_e) Any
 repeat' (first|exact MT.any|refine MT.say ?_|refine MT.ite (fun _=>?_) (fun _=>?_)|refine MT.lQ ?_ (fun _ _=>?_)|exact⟨T.wk (pR _)⟩|refine⟨(show MT _ Any from ?_)⟩)
theorem zO(p_p:aO):Tot (Q15 p_p) Any:=by
 show MT (aiU p_p) Any
 repeat' (first|exact MT.any|refine MT.say ?_|refine MT.ite (fun _=>?_) (fun _=>?_)|refine MT.lQ ?_ (fun _ _=>?_)|refine MT.ap6 ?_ (fun _ _=>?_) (fun _ _=>?_)|exact⟨T.wk (pR _)⟩|exact⟨T.wk (sJ _)⟩|exact⟨T.wk (jU _)⟩|exact⟨T.wk (jL _)⟩|exact⟨T.wk (iU _)⟩|exact⟨T.wk (zN _)⟩|refine⟨(show MT _ Any from ?_)⟩)
theorem LD(p_op:Int):Tot (Q75 p_op) Any:=by
 show MT (aiV p_op) Any
 repeat' (first|exact MT.any|refine MT.say ?_|refine MT.ite (fun _=>?_) (fun _=>?_)|refine MT.lQ ?_ (fun _ _=>?_)|refine⟨(show MT _ Any from ?_)⟩)
theorem Gs(p_shape:Int)(p_n:Int):Tot (anq p_shape p_n) Any:=by
 show MT (aa9 p_shape p_n) Any
 repeat' (first|exact MT.any|refine MT.say ?_|refine MT.ite (fun _=>?_) (fun _=>?_)|refine MT.lQ ?_ (fun _ _=>?_)|refine⟨(show MT _ Any from ?_)⟩)
theorem wC(p_s:ByteArray)(h_p_s:p_s.size≤100000000):Tot (ant p_s) Any:=by
 show MT (abb p_s) Any
 repeat' (first|exact MT.any|refine MT.say ?_|refine MT.ite (fun _=>?_) (fun _=>?_)|refine MT.lQ ?_ (fun _ _=>?_)|exact⟨T.wk (T.val (kY _))⟩)
theorem vX(p_l:List ByteArray)(h_p_l:dH (p_l.map lfS)≤100000000):Tot (Q68 p_l) Any:=by
 have:=iy p_l
 show MT (aiX p_l) Any
 refine MT.say (MT.kM (R:=Any) ?_ ?_ ?_)
 ·refine T.atJ (fun _=>True) ?_
  intro k36 m4094 hk36 hmk36
  show MT (xg p_l (((k36:Nat):Int),m4094)) _
  refine MT.ite (fun c4095=>?_) (fun c4095=>?_)
  ·have c4095':=of_decide_eq_true c4095
   refine MT.say (MT.ask (fE p_l ((k36:Nat):Int) (by omega) (by omega)) (fun x4096 _ hx37=>?_))
   have:=IC hx37
   refine MT.say (MT.ask (R:=Any) ?_ ?_)
   ·show MT (JU m4094 p_l ((k36:Nat):Int) x4096) Any
    refine MT.ask (R:=Any) ?_ ?_
    ·exact T.wk (wC x4096 (by first|omega|(simp;done)|decide))
    ·intro r4098 h4099 _
     refine MT.say (MT.ite (fun c4100=>?_) (fun c4100=>?_))
     ·exact MT.say MT.any
     ·first|exact MT.say MT.any|exact MT.say (MT.say MT.any)
   ·intro r4102 h4103 _
    refine MT.say (MT.ite (fun c4104=>?_) (fun c4104=>?_))
    ·exact MT.say (MT.ret trivial)
    ·refine MT.say (MT.grd (by unfold maxLen;omega) (fun _=>?_))
     exact MT.say (MT.ret ⟨rfl,by first|omega|(simp only[List.length_cons];omega),by omega⟩)
  ·have c4095':=of_decide_eq_false c4095
   exact MT.say (MT.ret trivial)
 ·intro o4108 h4107 _
  exact MT.say MT.any
 ·intro o4109 h4107 _
  exact MT.say MT.any
theorem Hz(p_v:ah):Tot (anu p_v) Any:=by
 show MT (abd p_v) Any
 repeat' (first|exact MT.any|refine MT.say ?_|refine MT.ite (fun _=>?_) (fun _=>?_)|refine MT.lQ ?_ (fun _ _=>?_)|refine⟨(show MT _ Any from ?_)⟩)
theorem Bj(p_e:aP)(h_p_e:aT p_e.lf1≤100000000):Tot (Q18 p_e) Any:=by
 have:=jP p_e
 have:=iy p_e.cO
 have:=iy p_e.eP
 have:=dW p_e.fArg
 have:=uq p_e.bC
 show MT (aiY p_e) Any
 repeat' (first|exact MT.any|refine MT.say ?_|refine MT.ite (fun _=>?_) (fun _=>?_)|refine MT.lQ ?_ (fun _ _=>?_)|exact⟨T.wk (vX _ (by first|omega|decide))⟩|exact⟨T.wk (Gs _ _)⟩|exact⟨T.wk (wC _ (by first|omega|decide))⟩|exact⟨T.wk (Hz _)⟩|exact⟨T.wk (LD _)⟩|exact⟨T.wk (T.val (kY _))⟩|exact⟨T.wk (iW _ (by first|omega|decide))⟩|refine⟨(show MT _ Any from ?_)⟩)
theorem H6(n_:Nat):∀(p_e:aP) (p_level:Int) (p_b0:Int),aT p_e.lf1<n_→aT p_e.lf1≤100000000→Tot ((xq n_).m1 p_e p_level p_b0) Any:=by
 induction n_ with
 |zero=>intro p_e p_level p_b0 h;omega
 |succ n_ ih=>
  intro p_e p_level p_b0 h_ h_p_e
  have:=jP p_e
  have:=uq p_e.bC
  show MT (JV (xq n_) p_e p_level p_b0) Any
  refine MT.ask (R:=fun b_=>(b_=true→True)∧(b_=false→¬((16:Int)<p_level)∧¬(p_b0=256)∧True)) ?_ ?_
  ·show MT (CX (xq n_) p_b0 p_e p_level) _
   refine MT.ite (fun c3727=>?_) (fun c3727=>?_)
   ·have c3727':=of_decide_eq_true c3727
    exact MT.say (MT.ret ⟨(fun _=>trivial),(fun h_=>by cases h_)⟩)
   ·have c3727':=of_decide_eq_false c3727
    exact MT.say (MT.ret ⟨(fun _=>trivial),(fun h_=>⟨(by first|assumption|omega),(by simpa using h_),trivial⟩)⟩)
  ·intro r3729 h3730 f_r3729
   refine MT.say (MT.ite (fun c3732=>?_) (fun c3732=>?_))
   ·exact MT.say MT.any
   ·have q38:=f_r3729.2 (c3732)
    refine MT.say (MT.ask (R:=Any) ?_ ?_)
    ·exact T.wk (Bj p_e (by first|omega|(simp;done)|decide))
    ·intro r4219 h4220 _
     refine MT.say (MT.ite (fun c4222=>?_) (fun c4222=>?_))
     ·have c4222':¬(r4219=0):=by simpa using c4222
      exact MT.say MT.any
     ·have c4222':r4219=0:=by simpa using c4222
      refine MT.say (MT.kM (R:=Any) ?_ ?_ ?_)
      ·refine T.MV (fun _=>True) ?_
       intro k39 v4262 hk39
       show MT (xk (xq n_) p_e p_level (((k39:Nat):Int),v4262)) _
       refine MT.ite (fun c4263=>?_) (fun c4263=>?_)
       ·have c4263':=of_decide_eq_true c4263
        refine MT.say (MT.ask (fE p_e.bC ((k39:Nat):Int) (by omega) (by omega)) (fun x4264 _ hx40=>?_))
        have:=DX hx40
        have:=jP x4264
        refine MT.say (MT.ask (R:=Any) ?_ ?_)
        ·exact(ih x4264 (IntKind.wrap .i64 (p_level+1)) v4262 (by omega) (by first|omega|(simp;done)|decide))
        ·intro r4266 h4267 _
         refine MT.say (MT.ite (fun c4268=>?_) (fun c4268=>?_))
         ·have c4268':¬(r4266.1=0):=by simpa using c4268
          exact MT.say (MT.ret trivial)
         ·have c4268':r4266.1=0:=by simpa using c4268
          exact MT.say (MT.ret ⟨rfl,by omega⟩)
       ·have c4263':=of_decide_eq_false c4263
        exact MT.say (MT.ret trivial)
      ·intro o4274 h4273 _
       exact MT.say MT.any
      ·intro o4275 h4273 _
       exact MT.say MT.any
theorem LG(p_e:aP)(p_level:Int)(p_b0:Int)(h_p_e:aT p_e.lf1≤100000000):Tot (Q91 p_e p_level p_b0) Any:=H6 FU p_e p_level p_b0 (by have:=gW;omega) h_p_e
theorem LH(p_e:aP)(h_p_e:aT p_e.lf1≤100000000):Tot (anx p_e) Any:=by
 have:=jP p_e
 show MT (abf p_e) Any
 repeat' (first|exact MT.any|refine MT.say ?_|refine MT.ite (fun _=>?_) (fun _=>?_)|refine MT.lQ ?_ (fun _ _=>?_)|exact⟨T.wk (LG _ _ _ (by first|omega|decide))⟩)
theorem nK(p_p:aO)(p_inside:Bool)(h_p_p:aT p_p.lf1≤100000000):Tot (Q6 p_p p_inside) Any:=by
 have:=iw p_p
 have:=iy p_p.cO
 have:=dW p_p.fArg
 have:=jf p_p.fArgs
 have:=qM p_p.dY
 have:=jP p_p.fExpr
 have:=oL p_p.bC
 show MT (arI p_p p_inside) Any
 refine MT.ask (R:=fun b_=>(b_=true→True)∧(b_=false→¬((p_p.fOp:Int)<1)∧¬((24:Int)<p_p.fOp)∧True)) ?_ ?_
 ·show MT (Us p_inside p_p) _
  refine MT.ite (fun c3156=>?_) (fun c3156=>?_)
  ·have c3156':=of_decide_eq_true c3156
   exact MT.say (MT.ret ⟨(fun _=>trivial),(fun h_=>by cases h_)⟩)
  ·have c3156':=of_decide_eq_false c3156
   exact MT.say (MT.ret ⟨(fun _=>trivial),(fun h_=>⟨(by first|assumption|omega),(of_decide_eq_false h_),trivial⟩)⟩)
 ·intro r3158 h3159 f_r3158
  refine MT.say (MT.ask (R:=fun b_=>(b_=true→True)∧(b_=false→r3158=false∧True)) ?_ ?_)
  ·show MT (Ut p_inside p_p r3158) _
   refine MT.ite (fun c3160=>?_) (fun c3160=>?_)
   ·exact MT.say (MT.ret ⟨(fun _=>trivial),(fun h_=>by cases h_)⟩)
   ·have q41:=f_r3158.2 (c3160)
    refine MT.say (MT.ask (R:=Any) ?_ ?_)
    ·exact T.wk (oz p_p.fOp (p_p.bC.length:Int) )
    ·intro r3161 h3162 _
     exact MT.say (MT.ret ⟨(fun _=>trivial),(fun h_=>⟨(by first|assumption|omega),trivial⟩)⟩)
  ·intro r3164 h3165 f_r3164
   refine MT.say (MT.ite (fun c3167=>?_) (fun c3167=>?_))
   ·exact MT.say MT.any
   ·have q42:=f_r3164.2 (c3167)
    have q43:=f_r3158.2 (q42.1)
    refine MT.say (MT.ask (R:=fun b_=>(b_=true→(p_p.fArgs.length:Int)=0∧True)∧(b_=false→True)) ?_ ?_)
    ·show MT (JW p_inside p_p) _
     refine MT.ask (R:=Any) ?_ ?_
     ·exact T.wk (iU p_p.fOp )
     ·intro r3291 h3292 _
      refine MT.say (MT.ite (fun c3293=>?_) (fun c3293=>?_))
      ·first|exact MT.say (MT.ret ⟨(fun h_=>⟨(by simpa using h_),trivial⟩),(fun _=>trivial)⟩)|exact MT.say (MT.say (MT.ret ⟨(fun h_=>⟨(by simpa using h_),trivial⟩),(fun _=>trivial)⟩))
      ·exact MT.say (MT.ret ⟨(fun h_=>by cases h_),(fun _=>trivial)⟩)
    ·intro r3295 h3296 f_r3295
     refine MT.say (MT.ask (R:=fun b_=>(b_=true→True)∧(b_=false→r3295=false∧True)) ?_ ?_)
     ·show MT (JX p_inside p_p r3295) _
      refine MT.ite (fun c3297=>?_) (fun c3297=>?_)
      ·have q44:=f_r3295.1 (c3297)
       exact MT.say (MT.ret ⟨(fun _=>trivial),(fun h_=>by cases h_)⟩)
      ·refine MT.say (MT.ask (R:=Any) ?_ ?_)
       ·exact T.wk (oC p_p (by first|omega|(simp;done)|decide))
       ·intro r3298 h3299 _
        exact MT.say (MT.ret ⟨(fun _=>trivial),(fun h_=>⟨(by first|assumption|omega),trivial⟩)⟩)
     ·intro r3301 h3302 f_r3301
      refine MT.say (MT.ite (fun c3304=>?_) (fun c3304=>?_))
      ·exact MT.say MT.any
      ·have q45:=f_r3301.2 (c3304)
       refine MT.say (MT.ask (R:=Any) ?_ ?_)
       ·show MT (JY p_inside p_p) Any
        refine MT.ask (R:=Any) ?_ ?_
        ·exact T.wk (jU p_p.fOp )
        ·intro r3319 h3320 _
         refine MT.say (MT.ite (fun c3321=>?_) (fun c3321=>?_))
         ·refine MT.say (MT.ask (R:=Any) ?_ ?_)
          ·exact T.wk (T.val (kY p_p.cO))
          ·intro r3322 h3323 _
           exact MT.say MT.any
         ·exact MT.say MT.any
       ·intro r3325 h3326 _
        refine MT.say (MT.ask (R:=fun b_=>(b_=true→r3325=true∧True)∧(b_=false→True)) ?_ ?_)
        ·show MT (JZ p_inside p_p r3325) _
         refine MT.ite (fun c3327=>?_) (fun c3327=>?_)
         ·refine MT.say (MT.ite (fun c3328=>?_) (fun c3328=>?_))
          ·exact MT.say (MT.ret ⟨(fun h_=>⟨(by first|assumption|omega),trivial⟩),(fun h_=>by cases h_)⟩)
          ·first|exact MT.say (MT.ret ⟨(fun h_=>⟨(by first|assumption|omega),trivial⟩),(fun _=>trivial)⟩)|exact MT.say (MT.say (MT.ret ⟨(fun h_=>⟨(by first|assumption|omega),trivial⟩),(fun _=>trivial)⟩))
         ·exact MT.say (MT.ret ⟨(fun h_=>by cases h_),(fun _=>trivial)⟩)
        ·intro r3330 h3331 f_r3330
         refine MT.say (MT.ite (fun c3333=>?_) (fun c3333=>?_))
         ·have q46:=f_r3330.1 (c3333)
          exact MT.say MT.any
         ·refine MT.say (MT.ask (R:=Any) ?_ ?_)
          ·show MT (J3 p_p) Any
           refine MT.ask (R:=Any) ?_ ?_
           ·exact T.wk (jL p_p.fOp )
           ·intro r3357 h3358 _
            refine MT.say (MT.ite (fun c3359=>?_) (fun c3359=>?_))
            ·refine MT.say (MT.ask (R:=Any) ?_ ?_)
             ·exact T.wk (iW p_p.fArg (by first|omega|(simp;done)|decide))
             ·intro r3360 h3361 _
              exact MT.say MT.any
            ·exact MT.say MT.any
          ·intro r3363 h3364 _
           refine MT.say (MT.ask (R:=fun b_=>(b_=true→True)∧(b_=false→r3363=false∧True)) ?_ ?_)
           ·show MT (J4 p_p r3363) _
            refine MT.ite (fun c3365=>?_) (fun c3365=>?_)
            ·exact MT.say (MT.ret ⟨(fun _=>trivial),(fun h_=>by cases h_)⟩)
            ·refine MT.say (MT.ask (R:=Any) ?_ ?_)
             ·exact T.wk (lq p_p.fOp )
             ·intro r3366 h3367 _
              refine MT.say (MT.ite (fun c3368=>?_) (fun c3368=>?_))
              ·exact MT.say (MT.ret ⟨(fun _=>trivial),(fun h_=>⟨(by first|assumption|omega),trivial⟩)⟩)
              ·exact MT.say (MT.ret ⟨(fun h_=>by cases h_),(fun h_=>⟨(by first|assumption|omega),trivial⟩)⟩)
           ·intro r3370 h3371 f_r3370
            refine MT.say (MT.ite (fun c3373=>?_) (fun c3373=>?_))
            ·exact MT.say MT.any
            ·have q47:=f_r3370.2 (c3373)
             refine MT.say (MT.ask (R:=Any) ?_ ?_)
             ·exact T.wk (iU p_p.fOp )
             ·intro r3376 h3377 _
              refine MT.say (MT.kM (R:=Any) ?_ ?_ ?_)
              ·show MT (J5 p_p r3376) Any
               refine MT.ite (fun c3407=>?_) (fun c3407=>?_)
               ·refine MT.say (MT.kM (R:=Any) ?_ ?_ ?_)
                ·refine T.cnt (fun _=>True) ?_
                 intro k48 hk48
                 show MT (xu p_p ((k48:Nat):Int)) _
                 refine MT.ite (fun c3415=>?_) (fun c3415=>?_)
                 ·have c3415':=of_decide_eq_true c3415
                  refine MT.say (MT.ask (fE p_p.fArgs ((k48:Nat):Int) (by omega) (by omega)) (fun x3416 _ hx49=>?_))
                  have:=jK hx49
                  have:=dW x3416
                  refine MT.say (MT.ask (R:=Any) ?_ ?_)
                  ·exact T.wk (iW x3416 (by first|omega|(simp;done)|decide))
                  ·intro r3418 h3419 _
                   refine MT.say (MT.ite (fun c3420=>?_) (fun c3420=>?_))
                   ·exact MT.say (MT.ret trivial)
                   ·exact MT.say (MT.ret ⟨rfl,by omega⟩)
                 ·have c3415':=of_decide_eq_false c3415
                  exact MT.say (MT.ret trivial)
                ·intro o3423 h3422 _
                 exact MT.say MT.any
                ·intro o3424 h3422 _
                 exact MT.say MT.any
               ·exact MT.say MT.any
              ·intro o3427 h3426 _
               exact MT.say MT.any
              ·intro o3428 h3426 _
               refine MT.say (MT.kM (R:=Any) ?_ ?_ ?_)
               ·show MT (J6 p_p) Any
                refine MT.ite (fun c3509=>?_) (fun c3509=>?_)
                ·have c3509':p_p.fOp=18:=by simpa using c3509
                 refine MT.say (MT.ask (R:=Any) ?_ ?_)
                 ·exact T.wk (Nk p_p.dY (by first|omega|(simp;done)|decide))
                 ·intro r3510 h3511 _
                  refine MT.say (MT.ite (fun c3512=>?_) (fun c3512=>?_))
                  ·have c3512':¬(r3510=0):=by simpa using c3512
                   exact MT.say MT.any
                  ·have c3512':r3510=0:=by simpa using c3512
                   exact MT.say MT.any
                ·have c3509':¬(p_p.fOp=18):=by simpa using c3509
                 exact MT.say MT.any
               ·intro o3517 h3516 _
                exact MT.say MT.any
               ·intro o3518 h3516 _
                refine MT.say (MT.ask (R:=Any) ?_ ?_)
                ·exact T.wk (zO p_p)
                ·intro r3721 h3722 _
                 refine MT.say (MT.ite (fun c3724=>?_) (fun c3724=>?_))
                 ·exact MT.say MT.any
                 ·refine MT.say (MT.ite (fun c4280=>?_) (fun c4280=>?_))
                  ·have c4280':p_p.fOp=24:=by simpa using c4280
                   refine MT.say (MT.ask (R:=Any) ?_ ?_)
                   ·exact T.wk (LH p_p.fExpr (by first|omega|(simp;done)|decide))
                   ·intro r4283 h4284 _
                    exact MT.say MT.any
                  ·have c4280':¬(p_p.fOp=24):=by simpa using c4280
                   exact MT.say MT.any
theorem xR(n_:Nat):∀(p_p:aO) (p_inside:Bool),aT p_p.lf1<n_→aT p_p.lf1≤100000000→Tot ((nI n_).m1 p_p p_inside) Any:=by
 induction n_ with
 |zero=>intro p_p p_inside h;omega
 |succ n_ ih=>
  intro p_p p_inside h_ h_p_p
  have:=iw p_p
  have:=oL p_p.bC
  show MT (XU (nI n_) p_p p_inside) Any
  refine MT.ask (R:=Any) ?_ ?_
  ·exact T.wk (nK p_p p_inside (by first|omega|(simp;done)|decide))
  ·intro r4287 h4288 _
   refine MT.say (MT.ite (fun c4290=>?_) (fun c4290=>?_))
   ·have c4290':¬(r4287=0):=by simpa using c4290
    exact MT.say MT.any
   ·have c4290':r4287=0:=by simpa using c4290
    refine MT.say (MT.kM (R:=Any) ?_ ?_ ?_)
    ·refine T.cnt (fun _=>True) ?_
     intro k50 hk50
     show MT (xw (nI n_) p_inside p_p ((k50:Nat):Int)) _
     refine MT.ite (fun c4363=>?_) (fun c4363=>?_)
     ·have c4363':=of_decide_eq_true c4363
      refine MT.say (MT.ask (fE p_p.bC ((k50:Nat):Int) (by omega) (by omega)) (fun x4364 _ hx51=>?_))
      have:=uw hx51
      have:=iw x4364
      refine MT.say (MT.ask (R:=Any) ?_ ?_)
      ·show MT (J7 (nI n_) p_inside p_p ((k50:Nat):Int) x4364) Any
       refine MT.ite (fun c4366=>?_) (fun c4366=>?_)
       ·refine MT.say (MT.ask (R:=Any) ?_ ?_)
        ·exact(ih x4364 true (by omega) (by first|omega|(simp;done)|decide))
        ·intro r4367 h4368 _
         exact MT.say MT.any
       ·refine MT.say (MT.ask (R:=Any) ?_ ?_)
        ·exact(ih x4364 (p_p.fOp==15) (by omega) (by first|omega|(simp;done)|decide))
        ·intro r4369 h4370 _
         exact MT.say MT.any
      ·intro r4374 h4375 _
       refine MT.say (MT.ite (fun c4376=>?_) (fun c4376=>?_))
       ·have c4376':¬(r4374=0):=by simpa using c4376
        exact MT.say (MT.ret trivial)
       ·have c4376':r4374=0:=by simpa using c4376
        exact MT.say (MT.ret ⟨rfl,by omega⟩)
     ·have c4363':=of_decide_eq_false c4363
      exact MT.say (MT.ret trivial)
    ·intro o4381 h4380 _
     exact MT.say MT.any
    ·intro o4382 h4380 _
     exact MT.say MT.any
theorem zQ(p_p:aO)(p_inside:Bool)(h_p_p:aT p_p.lf1≤100000000):Tot (Q47 p_p p_inside) Any:=xR FU p_p p_inside (by have:=gW;omega) h_p_p
theorem zU(p_p:aO)(h_p_p:aT p_p.lf1≤100000000):Tot (anB p_p) Any:=by
 have:=iw p_p
 show MT (abl p_p) Any
 repeat' (first|exact MT.any|refine MT.say ?_|refine MT.ite (fun _=>?_) (fun _=>?_)|refine MT.lQ ?_ (fun _ _=>?_)|exact⟨T.wk (zQ _ _ (by first|omega|decide))⟩|exact⟨T.wk (Bh _ _ _ (by first|omega|decide))⟩)
theorem pU(p_v:ah):Tot (anD p_v) Any:=by
 show MT (abm p_v) Any
 repeat' (first|exact MT.any|refine MT.say ?_|refine MT.ite (fun _=>?_) (fun _=>?_)|refine MT.lQ ?_ (fun _ _=>?_)|refine⟨(show MT _ Any from ?_)⟩)
theorem zV(p_x:aP):Tot (anE p_x) Any:=by
 show MT (abn p_x) Any
 repeat' (first|exact MT.any|refine MT.say ?_|refine MT.ite (fun _=>?_) (fun _=>?_)|refine MT.lQ ?_ (fun _ _=>?_)|exact⟨T.wk (pU _)⟩|refine⟨(show MT _ Any from ?_)⟩)
theorem zW(p_p:aO):Tot (anG p_p) Any:=by
 show MT (abo p_p) Any
 repeat' (first|exact MT.any|refine MT.say ?_|refine MT.ite (fun _=>?_) (fun _=>?_)|refine MT.lQ ?_ (fun _ _=>?_)|exact⟨T.wk (zV _)⟩|exact⟨T.wk (pU _)⟩|refine⟨(show MT _ Any from ?_)⟩)
theorem kG(p_x:aQ)(h_p_x:aT p_x.lf1≤100000000):Tot (XV p_x) Any:=by
 have:=jX p_x
 have:=ny p_x.gq
 have:=iw p_x.bG
 show MT (abp p_x) Any
 refine MT.say (MT.ask (R:=Any) ?_ ?_)
 ·exact T.wk (T.val (kY [p_x.fName]))
 ·intro r2799 h2800 _
  refine MT.say (MT.ite (fun c2802=>?_) (fun c2802=>?_))
  ·exact MT.say MT.any
  ·refine MT.say (MT.ask (R:=fun b_=>(b_=true→True)∧(b_=false→¬((p_x.aF:Int)<1)∧¬((3:Int)<p_x.aF)∧True)) ?_ ?_)
   ·show MT (Fg p_x) _
    refine MT.ite (fun c2804=>?_) (fun c2804=>?_)
    ·have c2804':=of_decide_eq_true c2804
     exact MT.say (MT.ret ⟨(fun _=>trivial),(fun h_=>by cases h_)⟩)
    ·have c2804':=of_decide_eq_false c2804
     exact MT.say (MT.ret ⟨(fun _=>trivial),(fun h_=>⟨(by first|assumption|omega),(of_decide_eq_false h_),trivial⟩)⟩)
   ·intro r2806 h2807 f_r2806
    refine MT.say (MT.ite (fun c2809=>?_) (fun c2809=>?_))
    ·exact MT.say MT.any
    ·have q52:=f_r2806.2 (c2809)
     refine MT.say (MT.ask (R:=Any) ?_ ?_)
     ·exact T.wk (Hw p_x.gq (by first|omega|(simp;done)|decide))
     ·intro r3027 h3028 _
      refine MT.say (MT.ite (fun c3030=>?_) (fun c3030=>?_))
      ·have c3030':¬(r3027=0):=by simpa using c3030
       exact MT.say MT.any
      ·have c3030':r3027=0:=by simpa using c3030
       refine MT.say (MT.ask (R:=fun b_=>(b_=true→True)∧(b_=false→¬((p_x.gq.length:Int)=0)∧True)) ?_ ?_)
       ·show MT (Fh p_x) _
        refine MT.say (MT.ite (fun c3037=>?_) (fun c3037=>?_))
        ·have c3037':(p_x.gq.length:Int)=0:=by simpa using c3037
         exact MT.say (MT.ret ⟨(fun _=>trivial),(fun h_=>by cases h_)⟩)
        ·have c3037':¬((p_x.gq.length:Int)=0):=by simpa using c3037
         refine MT.say (MT.ite (fun c3038=>?_) (fun c3038=>?_))
         ·have c3038':¬(p_x.aF=1):=by simpa using c3038
          refine MT.say (MT.ite (fun c3039=>?_) (fun c3039=>?_))
          ·have c3039':=of_decide_eq_true c3039
           exact MT.say (MT.ret ⟨(fun _=>trivial),(fun h_=>by cases h_)⟩)
          ·have c3039':=of_decide_eq_false c3039
           refine MT.say (MT.ask (fE p_x.gq 0 (by omega) (by omega)) (fun x3040 _ hx53=>?_))
           have:=zq hx53
           have:=oJ x3040
           refine MT.say (MT.ite (fun c3042=>?_) (fun c3042=>?_))
           ·exact MT.say (MT.ret ⟨(fun _=>trivial),(fun h_=>by cases h_)⟩)
           ·exact MT.say (MT.ret ⟨(fun _=>trivial),(fun h_=>⟨(by first|assumption|omega),trivial⟩)⟩)
         ·have c3038':p_x.aF=1:=by simpa using c3038
          exact MT.say (MT.ret ⟨(fun h_=>by cases h_),(fun h_=>⟨(by first|assumption|omega),trivial⟩)⟩)
       ·intro r3044 h3045 f_r3044
        refine MT.say (MT.ite (fun c3047=>?_) (fun c3047=>?_))
        ·exact MT.say MT.any
        ·have q54:=f_r3044.2 (c3047)
         refine MT.say (MT.ite (fun c4387=>?_) (fun c4387=>?_))
         ·refine MT.say (MT.ask (R:=Any) ?_ ?_)
          ·exact T.wk (zU p_x.bG (by first|omega|(simp;done)|decide))
          ·intro r4390 h4391 _
           exact MT.say MT.any
         ·refine MT.say (MT.ask (R:=Any) ?_ ?_)
          ·exact T.wk (zW p_x.bG)
          ·intro r4492 h4493 _
           refine MT.say (MT.ite (fun c4495=>?_) (fun c4495=>?_))
           ·exact MT.say MT.any
           ·exact MT.say MT.any
theorem zX(p_x:aQ)(p_b0:ByteArray)(h_p_x:aT p_x.lf1≤100000000)(h_p_b0:p_b0.size≤100000000):Tot (arK p_x p_b0) Any:=by
 have:=jX p_x
 show MT (abq p_x p_b0) Any
 repeat' (first|exact MT.any|refine MT.say ?_|refine MT.ite (fun _=>?_) (fun _=>?_))
theorem oO(p_s:List aQ)(p_b0:ByteArray)(h_p_s:dH (p_s.map aQ.lf)≤100000000)(h_p_b0:p_b0.size≤100000000):Tot (Q50 p_s p_b0) Any:=by
 have:=kJ p_s
 show MT (aiZ p_s p_b0) Any
 refine MT.say (MT.kM (R:=Any) ?_ ?_ ?_)
 ·refine T.cnt (fun _=>True) ?_
  intro k55 hk55
  show MT (xA p_b0 p_s ((k55:Nat):Int)) _
  refine MT.ite (fun c4539=>?_) (fun c4539=>?_)
  ·have c4539':=of_decide_eq_true c4539
   refine MT.say (MT.ask (fE p_s ((k55:Nat):Int) (by omega) (by omega)) (fun x4540 _ hx56=>?_))
   have:=Gi hx56
   have:=jX x4540
   refine MT.say (MT.ask (R:=Any) ?_ ?_)
   ·exact T.wk (zX x4540 p_b0 (by first|omega|(simp;done)|decide) (by first|omega|(simp;done)|decide))
   ·intro r4542 h4543 _
    refine MT.say (MT.ite (fun c4544=>?_) (fun c4544=>?_))
    ·exact MT.say (MT.ret trivial)
    ·exact MT.say (MT.ret ⟨rfl,by omega⟩)
  ·have c4539':=of_decide_eq_false c4539
   exact MT.say (MT.ret trivial)
 ·intro o4548 h4547 _
  exact MT.say MT.any
 ·intro o4549 h4547 _
  exact MT.say MT.any
theorem Ec(p_l:List aQ)(p_name:ByteArray)(h_p_l:dH (p_l.map aQ.lf)≤100000000)(h_p_name:p_name.size≤100000000):Tot (ai0 p_l p_name) Any:=by
 have:=kJ p_l
 show MT (abt p_l p_name) Any
 repeat' (first|exact MT.any|refine MT.say ?_|refine MT.ite (fun _=>?_) (fun _=>?_)|refine MT.lQ ?_ (fun _ _=>?_)|exact⟨T.wk (oO _ _ (by first|omega|decide) (by first|omega|decide))⟩)
theorem uF(p_has:Bool)(p_v:ah)(h_p_v:aT p_v.lf1≤100000000):Tot (Q72 p_has p_v) Any:=by
 have:=dW p_v
 have:=jf p_v.aW
 have:=iQ p_v.aU
 show MT (ai2 p_has p_v) Any
 repeat' (first|exact MT.any|refine MT.say ?_|refine MT.ite (fun _=>?_) (fun _=>?_)|refine MT.lQ ?_ (fun _ _=>?_)|exact⟨T.wk (iW _ (by first|omega|decide))⟩|refine⟨(show MT _ Any from ?_)⟩)
theorem ql(p_s:aI)(h_p_s:aT p_s.lf1≤100000000):Tot (Q7 p_s) Any:=by
 have:=gK p_s
 have:=dW p_s.kT
 have:=dW p_s.kU
 have:=jf p_s.iV
 have:=iy p_s.dZ
 have:=l7 p_s.dD
 have:=nJ p_s.eU
 show MT (arM p_s) Any
 refine MT.say (MT.kM (R:=Any) ?_ ?_ ?_)
 ·refine T.atJ (fun _=>True) ?_
  intro k57 m4820 hk57 hmk57
  show MT (CY p_s (((k57:Nat):Int),m4820)) _
  refine MT.ite (fun c4821=>?_) (fun c4821=>?_)
  ·have c4821':=of_decide_eq_true c4821
   refine MT.say (MT.ask (fE p_s.dZ ((k57:Nat):Int) (by omega) (by omega)) (fun x4822 _ hx58=>?_))
   have:=IC hx58
   refine MT.say (MT.ask (R:=Any) ?_ ?_)
   ·show MT (Uu m4820 p_s ((k57:Nat):Int) x4822) Any
    refine MT.ask (R:=Any) ?_ ?_
    ·exact T.wk (T.val (zx x4822))
    ·intro r4824 h4825 _
     refine MT.say (MT.ite (fun c4826=>?_) (fun c4826=>?_))
     ·exact MT.say MT.any
     ·first|exact MT.say MT.any|exact MT.say (MT.say MT.any)
   ·intro r4828 h4829 _
    refine MT.say (MT.ite (fun c4830=>?_) (fun c4830=>?_))
    ·exact MT.say (MT.ret trivial)
    ·refine MT.say (MT.grd (by unfold maxLen;omega) (fun _=>?_))
     exact MT.say (MT.ret ⟨rfl,by first|omega|(simp only[List.length_cons];omega),by omega⟩)
  ·have c4821':=of_decide_eq_false c4821
   exact MT.say (MT.ret trivial)
 ·intro o4834 h4833 _
  exact MT.say MT.any
 ·intro o4835 h4833 _
  refine MT.say (MT.kM (R:=Any) ?_ ?_ ?_)
  ·refine T.atJ (fun _=>True) ?_
   intro k59 m4894 hk59 hmk59
   show MT (xB p_s (((k59:Nat):Int),m4894)) _
   refine MT.ite (fun c4895=>?_) (fun c4895=>?_)
   ·have c4895':=of_decide_eq_true c4895
    refine MT.say (MT.ask (fE p_s.dD ((k59:Nat):Int) (by omega) (by omega)) (fun x4896 _ hx60=>?_))
    have:=DY hx60
    have:=uo x4896
    refine MT.say (MT.ask (R:=Any) ?_ ?_)
    ·show MT (Kq m4894 p_s ((k59:Nat):Int) x4896) Any
     refine MT.ask (R:=Any) ?_ ?_
     ·exact T.wk (T.val (zx x4896.fName))
     ·intro r4898 h4899 _
      refine MT.say (MT.ite (fun c4900=>?_) (fun c4900=>?_))
      ·first|exact MT.say MT.any|exact MT.say (MT.say MT.any)
      ·first|exact MT.say MT.any|exact MT.say (MT.say MT.any)
    ·intro r4902 h4903 _
     refine MT.say (MT.ite (fun c4904=>?_) (fun c4904=>?_))
     ·exact MT.say (MT.ret trivial)
     ·refine MT.say (MT.grd (by unfold maxLen;omega) (fun _=>?_))
      exact MT.say (MT.ret ⟨rfl,by first|omega|(simp only[List.length_cons];omega),by omega⟩)
   ·have c4895':=of_decide_eq_false c4895
    exact MT.say (MT.ret trivial)
  ·intro o4908 h4907 _
   first|exact MT.say MT.any|exact MT.say (MT.say MT.any)
  ·intro o4909 h4907 _
   refine MT.say (MT.ask (R:=fun b_=>(b_=true→True)∧(b_=false→(gX .andNot .i64 p_s.iZ 4094)=0∧¬((p_s.jQ:Int)<0)∧True)) ?_ ?_)
   ·show MT (Kr p_s) _
    refine MT.ite (fun c4922=>?_) (fun c4922=>?_)
    ·have c4922':¬((gX .andNot .i64 p_s.iZ 4094)=0):=by simpa using c4922
     exact MT.say (MT.ret ⟨(fun _=>trivial),(fun h_=>by cases h_)⟩)
    ·have c4922':(gX .andNot .i64 p_s.iZ 4094)=0:=by simpa using c4922
     exact MT.say (MT.ret ⟨(fun _=>trivial),(fun h_=>⟨(by first|assumption|omega),(of_decide_eq_false h_),trivial⟩)⟩)
   ·intro r4924 h4925 f_r4924
    refine MT.say (MT.ask (R:=fun b_=>(b_=true→True)∧(b_=false→r4924=false∧¬((p_s.jR:Int)<(-1))∧True)) ?_ ?_)
    ·show MT (Kt p_s r4924) _
     refine MT.ite (fun c4926=>?_) (fun c4926=>?_)
     ·exact MT.say (MT.ret ⟨(fun _=>trivial),(fun h_=>by cases h_)⟩)
     ·have q61:=f_r4924.2 (c4926)
      exact MT.say (MT.ret ⟨(fun _=>trivial),(fun h_=>⟨(by first|assumption|omega),(of_decide_eq_false h_),trivial⟩)⟩)
    ·intro r4928 h4929 f_r4928
     refine MT.say (MT.ask (R:=fun b_=>(b_=true→True)∧(b_=false→r4928=false∧¬((1:Int)<(p_s.eU.length:Int))∧True)) ?_ ?_)
     ·show MT (Ku p_s r4928) _
      refine MT.ite (fun c4930=>?_) (fun c4930=>?_)
      ·first|exact MT.say (MT.ret ⟨(fun _=>trivial),(fun h_=>by cases h_)⟩)|exact MT.say (MT.say (MT.ret ⟨(fun _=>trivial),(fun h_=>by cases h_)⟩))
      ·have q62:=f_r4928.2 (c4930)
       have q63:=f_r4924.2 (q62.1)
       first|exact MT.say (MT.ret ⟨(fun _=>trivial),(fun h_=>⟨(by first|assumption|omega),(of_decide_eq_false h_),trivial⟩)⟩)|exact MT.say (MT.say (MT.ret ⟨(fun _=>trivial),(fun h_=>⟨(by first|assumption|omega),(of_decide_eq_false h_),trivial⟩)⟩))
     ·intro r4932 h4933 f_r4932
      refine MT.say (MT.ite (fun c4935=>?_) (fun c4935=>?_))
      ·first|exact MT.say MT.any|exact MT.say (MT.say MT.any)
      ·have q64:=f_r4932.2 (c4935)
       have q65:=f_r4928.2 (q64.1)
       have q66:=f_r4924.2 (q65.1)
       refine MT.say (MT.ask (R:=Any) ?_ ?_)
       ·show MT (Kv p_s) Any
        refine MT.ask (R:=Any) ?_ ?_
        ·exact T.wk (uF p_s.jE p_s.kT (by first|omega|(simp;done)|decide))
        ·intro r4969 h4970 _
         refine MT.say (MT.ite (fun c4971=>?_) (fun c4971=>?_))
         ·first|exact MT.say MT.any|exact MT.say (MT.say MT.any)
         ·refine MT.say (MT.ask (R:=Any) ?_ ?_)
          ·exact T.wk (uF p_s.jF p_s.kU (by first|omega|(simp;done)|decide))
          ·intro r4972 h4973 _
           first|exact MT.say MT.any|exact MT.say (MT.say MT.any)
       ·intro r4975 h4976 _
        refine MT.say (MT.ite (fun c4978=>?_) (fun c4978=>?_))
        ·first|exact MT.say MT.any|exact MT.say (MT.say MT.any)
        ·refine MT.say (MT.kM (R:=Any) ?_ ?_ ?_)
         ·refine T.cnt (fun _=>True) ?_
          intro k67 hk67
          show MT (xC p_s ((k67:Nat):Int)) _
          refine MT.ite (fun c5014=>?_) (fun c5014=>?_)
          ·have c5014':=of_decide_eq_true c5014
           refine MT.say (MT.ask (fE p_s.iV ((k67:Nat):Int) (by omega) (by omega)) (fun x5015 _ hx68=>?_))
           have:=jK hx68
           have:=dW x5015
           refine MT.say (MT.ask (R:=Any) ?_ ?_)
           ·exact T.wk (iW x5015 (by first|omega|(simp;done)|decide))
           ·intro r5017 h5018 _
            refine MT.say (MT.ite (fun c5019=>?_) (fun c5019=>?_))
            ·first|exact MT.say (MT.ret trivial)|exact MT.say (MT.say (MT.ret trivial))
            ·first|exact MT.say (MT.ret ⟨rfl,by omega⟩)|exact MT.say (MT.say (MT.ret ⟨rfl,by omega⟩))
          ·have c5014':=of_decide_eq_false c5014
           first|exact MT.say (MT.ret trivial)|exact MT.say (MT.say (MT.ret trivial))
         ·intro o5022 h5021 _
          first|exact MT.say MT.any|exact MT.say (MT.say MT.any)
         ·intro o5023 h5021 _
          first|exact MT.say MT.any|exact MT.say (MT.say MT.any)
theorem Ed(n_:Nat):∀(p_s:aI) (p_level:Int) (p_b0:Int),aT p_s.lf1<n_→aT p_s.lf1≤100000000→Tot ((nZ n_).m1 p_s p_level p_b0) Any:=by
 induction n_ with
 |zero=>intro p_s p_level p_b0 h;omega
 |succ n_ ih=>
  intro p_s p_level p_b0 h_ h_p_s
  have:=gK p_s
  have:=l7 p_s.dD
  have:=nJ p_s.eU
  show MT (Kw (nZ n_) p_s p_level p_b0) Any
  refine MT.ask (R:=fun b_=>(b_=true→True)∧(b_=false→¬((16:Int)<p_level)∧¬(p_b0=64)∧True)) ?_ ?_
  ·show MT (CZ (nZ n_) p_b0 p_level p_s) _
   refine MT.ite (fun c4629=>?_) (fun c4629=>?_)
   ·have c4629':=of_decide_eq_true c4629
    exact MT.say (MT.ret ⟨(fun _=>trivial),(fun h_=>by cases h_)⟩)
   ·have c4629':=of_decide_eq_false c4629
    exact MT.say (MT.ret ⟨(fun _=>trivial),(fun h_=>⟨(by first|assumption|omega),(by simpa using h_),trivial⟩)⟩)
  ·intro r4631 h4632 f_r4631
   refine MT.say (MT.ite (fun c4634=>?_) (fun c4634=>?_))
   ·exact MT.say MT.any
   ·have q69:=f_r4631.2 (c4634)
    refine MT.say (MT.ask (R:=Any) ?_ ?_)
    ·exact T.wk (ql p_s (by first|omega|(simp;done)|decide))
    ·intro r5026 h5027 _
     refine MT.say (MT.ite (fun c5029=>?_) (fun c5029=>?_))
     ·have c5029':¬(r5026=0):=by simpa using c5029
      exact MT.say MT.any
     ·have c5029':r5026=0:=by simpa using c5029
      refine MT.say (MT.kM (R:=Any) ?_ ?_ ?_)
      ·refine T.MV (fun _=>True) ?_
       intro k70 v5071 hk70
       show MT (xE (nZ n_) p_level p_s (((k70:Nat):Int),v5071)) _
       refine MT.ite (fun c5072=>?_) (fun c5072=>?_)
       ·have c5072':=of_decide_eq_true c5072
        refine MT.say (MT.ask (fE p_s.dD ((k70:Nat):Int) (by omega) (by omega)) (fun x5073 _ hx71=>?_))
        have:=DY hx71
        have:=uo x5073
        have:=gK x5073.aZ
        refine MT.say (MT.ask (R:=Any) ?_ ?_)
        ·exact(ih x5073.aZ (IntKind.wrap .i64 (p_level+1)) v5071 (by omega) (by first|omega|(simp;done)|decide))
        ·intro r5075 h5076 _
         refine MT.say (MT.ite (fun c5077=>?_) (fun c5077=>?_))
         ·have c5077':¬(r5075.1=0):=by simpa using c5077
          exact MT.say (MT.ret trivial)
         ·have c5077':r5075.1=0:=by simpa using c5077
          exact MT.say (MT.ret ⟨rfl,by omega⟩)
       ·have c5072':=of_decide_eq_false c5072
        exact MT.say (MT.ret trivial)
      ·intro o5085 h5084 _
       exact MT.say MT.any
      ·intro o5086 h5084 _
       refine MT.say (MT.kM (R:=Any) ?_ ?_ ?_)
       ·refine T.MV (fun _=>True) ?_
        intro k72 v5126 hk72
        show MT (tX (nZ n_) p_level p_s (((k72:Nat):Int),v5126)) _
        refine MT.ite (fun c5127=>?_) (fun c5127=>?_)
        ·have c5127':=of_decide_eq_true c5127
         refine MT.say (MT.ask (fE p_s.eU ((k72:Nat):Int) (by omega) (by omega)) (fun x5128 _ hx73=>?_))
         have:=vP hx73
         have:=gK x5128
         refine MT.say (MT.ask (R:=Any) ?_ ?_)
         ·exact(ih x5128 (IntKind.wrap .i64 (p_level+1)) v5126 (by omega) (by first|omega|(simp;done)|decide))
         ·intro r5130 h5131 _
          refine MT.say (MT.ite (fun c5132=>?_) (fun c5132=>?_))
          ·have c5132':¬(r5130.1=0):=by simpa using c5132
           exact MT.say (MT.ret trivial)
          ·have c5132':r5130.1=0:=by simpa using c5132
           exact MT.say (MT.ret ⟨rfl,by omega⟩)
        ·have c5127':=of_decide_eq_false c5127
         exact MT.say (MT.ret trivial)
       ·intro o5138 h5137 _
        exact MT.say MT.any
       ·intro o5139 h5137 _
        exact MT.say MT.any
theorem Gt(p_s:aI)(p_level:Int)(p_b0:Int)(h_p_s:aT p_s.lf1≤100000000):Tot (Q43 p_s p_level p_b0) Any:=Ed FU p_s p_level p_b0 (by have:=gW;omega) h_p_s
theorem Gu(p_s:aI)(h_p_s:aT p_s.lf1≤100000000):Tot (anM p_s) Any:=by
 have:=gK p_s
 show MT (abx p_s) Any
 repeat' (first|exact MT.any|refine MT.say ?_|refine MT.ite (fun _=>?_) (fun _=>?_)|refine MT.lQ ?_ (fun _ _=>?_)|exact⟨T.wk (Gt _ _ _ (by first|omega|decide))⟩)
theorem rJ(p_d:bU)(h_p_d:aT p_d.lf1≤100000000):Tot (Q55 p_d) Any:=by
 have:=oK p_d
 have:=kJ p_d.bM
 have:=gK p_d.aZ
 show MT (ai5 p_d) Any
 refine MT.ask (R:=Any) ?_ ?_
 ·exact T.wk (T.val (RH p_d.fName))
 ·intro r2597 h2598 _
  refine MT.say (MT.ite (fun c2600=>?_) (fun c2600=>?_))
  ·exact MT.say MT.any
  ·refine MT.say (MT.ite (fun c2602=>?_) (fun c2602=>?_))
   ·have c2602':=of_decide_eq_true c2602
    exact MT.say MT.any
   ·have c2602':=of_decide_eq_false c2602
    refine MT.say (MT.kM (R:=Any) ?_ ?_ ?_)
    ·refine T.cnt (fun _=>True) ?_
     intro k74 hk74
     have:=mX aQ.lf p_d.bM (((k74:Nat):Int).toNat)
     have:=kJ (p_d.bM.take ((k74:Nat):Int).toNat)
     show MT (xG p_d ((k74:Nat):Int)) _
     refine MT.ite (fun c4597=>?_) (fun c4597=>?_)
     ·have c4597':=of_decide_eq_true c4597
      refine MT.say (MT.ask (fE p_d.bM ((k74:Nat):Int) (by omega) (by omega)) (fun x4598 _ hx75=>?_))
      have:=Gi hx75
      have:=jX x4598
      refine MT.say (MT.ask (R:=Any) ?_ ?_)
      ·exact T.wk (kG x4598 (by first|omega|(simp;done)|decide))
      ·intro r4600 h4601 _
       refine MT.say (MT.ite (fun c4602=>?_) (fun c4602=>?_))
       ·have c4602':¬(r4600=0):=by simpa using c4602
        exact MT.say (MT.ret trivial)
       ·have c4602':r4600=0:=by simpa using c4602
        refine MT.say (MT.grd (by omega) (fun _=>?_))
        refine MT.say (MT.ask (R:=Any) ?_ ?_)
        ·exact T.wk (Ec (p_d.bM.take ((k74:Nat):Int).toNat) x4598.fName (Nat.le_trans (mX _ _ _) (by omega)) (by first|omega|(simp;done)|decide))
        ·intro r4604 h4605 _
         refine MT.say (MT.ite (fun c4606=>?_) (fun c4606=>?_))
         ·have c4606':=of_decide_eq_true c4606
          exact MT.say (MT.ret trivial)
         ·have c4606':=of_decide_eq_false c4606
          exact MT.say (MT.ret ⟨rfl,by omega⟩)
     ·have c4597':=of_decide_eq_false c4597
      exact MT.say (MT.ret trivial)
    ·intro o4612 h4611 _
     exact MT.say MT.any
    ·intro o4613 h4611 _
     refine MT.say (MT.ask (R:=fun b_=>(b_=true→True)∧(b_=false→¬((p_d.lg:Int)<0)∧¬((2:Int)<p_d.lg)∧True)) ?_ ?_)
     ·show MT (Kz p_d) _
      refine MT.ite (fun c4615=>?_) (fun c4615=>?_)
      ·have c4615':=of_decide_eq_true c4615
       exact MT.say (MT.ret ⟨(fun _=>trivial),(fun h_=>by cases h_)⟩)
      ·have c4615':=of_decide_eq_false c4615
       exact MT.say (MT.ret ⟨(fun _=>trivial),(fun h_=>⟨(by first|assumption|omega),(of_decide_eq_false h_),trivial⟩)⟩)
     ·intro r4617 h4618 f_r4617
      refine MT.say (MT.ite (fun c4620=>?_) (fun c4620=>?_))
      ·exact MT.say MT.any
      ·have q76:=f_r4617.2 (c4620)
       refine MT.say (MT.ask (R:=fun b_=>(b_=true→¬(p_d.jo=0)∧¬(p_d.jo=1)∧True)∧(b_=false→True)) ?_ ?_)
       ·show MT (Fj p_d) _
        refine MT.ite (fun c4622=>?_) (fun c4622=>?_)
        ·have c4622':¬(p_d.jo=0):=by simpa using c4622
         exact MT.say (MT.ret ⟨(fun h_=>⟨(by first|assumption|omega),(by simpa using h_),trivial⟩),(fun _=>trivial)⟩)
        ·have c4622':p_d.jo=0:=by simpa using c4622
         exact MT.say (MT.ret ⟨(fun h_=>by cases h_),(fun _=>trivial)⟩)
       ·intro r4624 h4625 f_r4624
        refine MT.say (MT.ite (fun c4627=>?_) (fun c4627=>?_))
        ·have q77:=f_r4624.1 (c4627)
         exact MT.say MT.any
        ·refine MT.say (MT.ask (R:=Any) ?_ ?_)
         ·exact T.wk (Gu p_d.aZ (by first|omega|(simp;done)|decide))
         ·intro r5142 h5143 _
          exact MT.say MT.any
theorem wI(n_:Nat):∀(p_w:aG) (p_least:Int) (p_greatest:Int),aT p_w.lf1<n_→aT p_w.lf1≤100000000→Tot ((kW n_).m1 p_w p_least p_greatest) Any:=by
 induction n_ with
 |zero=>intro p_w p_least p_greatest h;omega
 |succ n_ ih=>
  intro p_w p_least p_greatest h_ h_p_w
  have:=kQ p_w
  have:=oK p_w.dS
  have:=jX p_w.aY
  have:=Bc p_w.bQ
  have:=Lm p_w.eG
  show MT (abz (kW n_) p_w p_least p_greatest) Any
  refine MT.ask (R:=Any) ?_ ?_
  ·exact T.wk (uz p_w.aF)
  ·intro r260 h261 _
   refine MT.say (MT.ask (R:=fun b_=>(b_=true→True)∧(b_=false→¬((p_w.aF:Int)<p_least)∧¬((p_greatest:Int)<p_w.aF)∧True)) ?_ ?_)
   ·show MT (Uy (kW n_) p_greatest p_least p_w r260) _
    refine MT.ite (fun c597=>?_) (fun c597=>?_)
    ·have c597':=of_decide_eq_true c597
     exact MT.say (MT.ret ⟨(fun _=>trivial),(fun h_=>by cases h_)⟩)
    ·have c597':=of_decide_eq_false c597
     exact MT.say (MT.ret ⟨(fun _=>trivial),(fun h_=>⟨(by first|assumption|omega),(of_decide_eq_false h_),trivial⟩)⟩)
   ·intro r599 h600 f_r599
    refine MT.say (MT.ask (R:=fun b_=>(b_=true→True)∧(b_=false→r599=false∧True)) ?_ ?_)
    ·show MT (Uz (kW n_) p_greatest p_w r260 r599) _
     refine MT.ite (fun c601=>?_) (fun c601=>?_)
     ·exact MT.say (MT.ret ⟨(fun _=>trivial),(fun h_=>by cases h_)⟩)
     ·have q78:=f_r599.2 (c601)
      refine MT.say (MT.ask (R:=Any) ?_ ?_)
      ·exact T.wk (kR p_w)
      ·intro r602 h603 _
       exact MT.say (MT.ret ⟨(fun _=>trivial),(fun h_=>⟨(by first|assumption|omega),trivial⟩)⟩)
    ·intro r605 h606 f_r605
     refine MT.say (MT.ask (R:=fun b_=>(b_=true→True)∧(b_=false→r605=false∧True)) ?_ ?_)
     ·show MT (KA (kW n_) p_greatest p_w r260 r605) _
      refine MT.ite (fun c607=>?_) (fun c607=>?_)
      ·exact MT.say (MT.ret ⟨(fun _=>trivial),(fun h_=>by cases h_)⟩)
      ·have q79:=f_r605.2 (c607)
       have q80:=f_r599.2 (q79.1)
       refine MT.say (MT.ite (fun c608=>?_) (fun c608=>?_))
       ·first|exact MT.say (MT.ret ⟨(fun _=>trivial),(fun h_=>⟨(by first|assumption|omega),trivial⟩)⟩)|exact MT.say (MT.say (MT.ret ⟨(fun _=>trivial),(fun h_=>⟨(by first|assumption|omega),trivial⟩)⟩))
       ·exact MT.say (MT.ret ⟨(fun h_=>by cases h_),(fun h_=>⟨(by first|assumption|omega),trivial⟩)⟩)
     ·intro r610 h611 f_r610
      refine MT.say (MT.ite (fun c613=>?_) (fun c613=>?_))
      ·exact MT.say MT.any
      ·have q81:=f_r610.2 (c613)
       have q82:=f_r605.2 (q81.1)
       have q83:=f_r599.2 (q82.1)
       refine MT.say (MT.ite (fun c615=>?_) (fun c615=>?_))
       ·have c615':=of_decide_eq_true c615
        exact MT.say MT.any
       ·have c615':=of_decide_eq_false c615
        refine MT.say (MT.ask (R:=Any) ?_ ?_)
        ·show MT (KC (kW n_) p_greatest p_w r260) Any
         refine MT.ite (fun c636=>?_) (fun c636=>?_)
         ·refine MT.say (MT.ask (R:=Any) ?_ ?_)
          ·exact T.wk (T.val (qB p_w.gu))
          ·intro r637 h638 _
           exact MT.say MT.any
         ·exact MT.say MT.any
        ·intro r640 h641 _
         refine MT.say (MT.ask (R:=fun b_=>(b_=true→True)∧(b_=false→r640=false∧True)) ?_ ?_)
         ·show MT (KD (kW n_) p_greatest p_w r260 r640) _
          refine MT.ite (fun c642=>?_) (fun c642=>?_)
          ·exact MT.say (MT.ret ⟨(fun _=>trivial),(fun h_=>by cases h_)⟩)
          ·refine MT.say (MT.ite (fun c643=>?_) (fun c643=>?_))
           ·refine MT.say (MT.ask (R:=Any) ?_ ?_)
            ·exact T.wk (T.val (qB p_w.mM))
            ·intro r644 h645 _
             exact MT.say (MT.ret ⟨(fun _=>trivial),(fun h_=>⟨(by first|assumption|omega),trivial⟩)⟩)
           ·exact MT.say (MT.ret ⟨(fun h_=>by cases h_),(fun h_=>⟨(by first|assumption|omega),trivial⟩)⟩)
         ·intro r647 h648 f_r647
          refine MT.say (MT.ask (R:=fun b_=>(b_=true→True)∧(b_=false→r647=false∧True)) ?_ ?_)
          ·show MT (KE (kW n_) p_greatest p_w r260 r647) _
           refine MT.ite (fun c649=>?_) (fun c649=>?_)
           ·exact MT.say (MT.ret ⟨(fun _=>trivial),(fun h_=>by cases h_)⟩)
           ·have q84:=f_r647.2 (c649)
            refine MT.say (MT.ite (fun c650=>?_) (fun c650=>?_))
            ·refine MT.say (MT.ask (R:=Any) ?_ ?_)
             ·exact T.wk (T.val (qB p_w.aY.fName))
             ·intro r651 h652 _
              exact MT.say (MT.ret ⟨(fun _=>trivial),(fun h_=>⟨(by first|assumption|omega),trivial⟩)⟩)
            ·exact MT.say (MT.ret ⟨(fun h_=>by cases h_),(fun h_=>⟨(by first|assumption|omega),trivial⟩)⟩)
          ·intro r654 h655 f_r654
           refine MT.say (MT.ite (fun c657=>?_) (fun c657=>?_))
           ·exact MT.say MT.any
           ·have q85:=f_r654.2 (c657)
            have q86:=f_r647.2 (q85.1)
            refine MT.say (MT.ask (R:=Any) ?_ ?_)
            ·show MT (KF (kW n_) p_greatest p_w r260) Any
             refine MT.ite (fun c776=>?_) (fun c776=>?_)
             ·refine MT.say (MT.ask (R:=Any) ?_ ?_)
              ·exact T.wk (xQ p_w)
              ·intro r777 h778 _
               exact MT.say MT.any
             ·exact MT.say MT.any
            ·intro r780 h781 _
             refine MT.say (MT.ask (R:=fun b_=>(b_=true→True)∧(b_=false→r780=false∧True)) ?_ ?_)
             ·show MT (KG (kW n_) p_greatest p_w r260 r780) _
              refine MT.ite (fun c782=>?_) (fun c782=>?_)
              ·exact MT.say (MT.ret ⟨(fun _=>trivial),(fun h_=>by cases h_)⟩)
              ·refine MT.say (MT.ite (fun c783=>?_) (fun c783=>?_))
               ·refine MT.say (MT.ask (R:=Any) ?_ ?_)
                ·exact T.wk (wH p_w.eG (by first|omega|(simp;done)|decide))
                ·intro r784 h785 _
                 exact MT.say (MT.ret ⟨(fun _=>trivial),(fun h_=>⟨(by first|assumption|omega),trivial⟩)⟩)
               ·exact MT.say (MT.ret ⟨(fun h_=>by cases h_),(fun h_=>⟨(by first|assumption|omega),trivial⟩)⟩)
             ·intro r787 h788 f_r787
              refine MT.say (MT.ite (fun c790=>?_) (fun c790=>?_))
              ·exact MT.say MT.any
              ·have q87:=f_r787.2 (c790)
               refine MT.say (MT.kM (R:=Any) ?_ ?_ ?_)
               ·show MT (KH (kW n_) p_greatest p_w r260) Any
                refine MT.ite (fun c2457=>?_) (fun c2457=>?_)
                ·refine MT.say (MT.ask (R:=Any) ?_ ?_)
                 ·exact T.wk (zK p_w (by first|omega|(simp;done)|decide))
                 ·intro r2458 h2459 _
                  refine MT.say (MT.ite (fun c2460=>?_) (fun c2460=>?_))
                  ·have c2460':¬(r2458=0):=by simpa using c2460
                   exact MT.say MT.any
                  ·have c2460':r2458=0:=by simpa using c2460
                   exact MT.say MT.any
                ·exact MT.say MT.any
               ·intro o2465 h2464 _
                exact MT.say MT.any
               ·intro o2466 h2464 _
                refine MT.say (MT.kM (R:=Any) ?_ ?_ ?_)
                ·show MT (KI (kW n_) p_greatest p_w) Any
                 refine MT.ite (fun c5151=>?_) (fun c5151=>?_)
                 ·have c5151':p_w.aF=4:=by simpa using c5151
                  refine MT.say (MT.ask (R:=Any) ?_ ?_)
                  ·exact T.wk (rJ p_w.dS (by first|omega|(simp;done)|decide))
                  ·intro r5152 h5153 _
                   exact MT.say MT.any
                 ·have c5151':¬(p_w.aF=4):=by simpa using c5151
                  refine MT.say (MT.ite (fun c5154=>?_) (fun c5154=>?_))
                  ·have c5154':p_w.aF=6:=by simpa using c5154
                   refine MT.say (MT.ask (R:=Any) ?_ ?_)
                   ·exact T.wk (kG p_w.aY (by first|omega|(simp;done)|decide))
                   ·intro r5155 h5156 _
                    exact MT.say MT.any
                  ·have c5154':¬(p_w.aF=6):=by simpa using c5154
                   refine MT.say (MT.ite (fun c5157=>?_) (fun c5157=>?_))
                   ·have c5157':p_w.aF=8:=by simpa using c5157
                    exact MT.say MT.any
                   ·have c5157':¬(p_w.aF=8):=by simpa using c5157
                    refine MT.say (MT.ite (fun c5158=>?_) (fun c5158=>?_))
                    ·have c5158':p_w.aF=9:=by simpa using c5158
                     exact MT.say MT.any
                    ·have c5158':¬(p_w.aF=9):=by simpa using c5158
                     exact MT.say MT.any
                ·intro o5165 h5164 _
                 exact MT.say MT.any
                ·intro o5166 h5164 _
                 refine MT.say (MT.kM (R:=Any) ?_ ?_ ?_)
                 ·refine T.cnt (fun _=>True) ?_
                  intro k88 hk88
                  show MT (qI (kW n_) o5166 p_w ((k88:Nat):Int)) _
                  refine MT.ite (fun c5203=>?_) (fun c5203=>?_)
                  ·have c5203':=of_decide_eq_true c5203
                   refine MT.say (MT.ask (fE p_w.bQ ((k88:Nat):Int) (by omega) (by omega)) (fun x5204 _ hx89=>?_))
                   have:=Rw hx89
                   have:=kQ x5204
                   refine MT.say (MT.ask (R:=Any) ?_ ?_)
                   ·exact(ih x5204 2 o5166 (by omega) (by first|omega|(simp;done)|decide))
                   ·intro r5206 h5207 _
                    refine MT.say (MT.ite (fun c5208=>?_) (fun c5208=>?_))
                    ·have c5208':¬(r5206=0):=by simpa using c5208
                     exact MT.say (MT.ret trivial)
                    ·have c5208':r5206=0:=by simpa using c5208
                     exact MT.say (MT.ret ⟨rfl,by omega⟩)
                  ·have c5203':=of_decide_eq_false c5203
                   exact MT.say (MT.ret trivial)
                 ·intro o5212 h5211 _
                  exact MT.say MT.any
                 ·intro o5213 h5211 _
                  exact MT.say MT.any
theorem xU(p_w:aG)(p_least:Int)(p_greatest:Int)(h_p_w:aT p_w.lf1≤100000000):Tot (Q4 p_w p_least p_greatest) Any:=wI FU p_w p_least p_greatest (by have:=gW;omega) h_p_w
theorem H7(p_e:bY)(h_p_e:aT p_e.lf1≤100000000):Tot (Q82 p_e) Any:=by
 have:=Ba p_e
 have:=kQ p_e.dI
 show MT (ai6 p_e) Any
 repeat' (first|exact MT.any|refine MT.say ?_|refine MT.ite (fun _=>?_) (fun _=>?_)|refine MT.lQ ?_ (fun _ _=>?_)|exact⟨T.wk (T.val (qB _))⟩|exact⟨T.wk (xU _ _ _ (by first|omega|decide))⟩|refine⟨(show MT _ Any from ?_)⟩)
end Go.Proofs.YtflpefkohpjjpaaGreatDoor
set_option linter.unusedSimpArgs false
set_option linter.unusedVariables false
namespace Go.Proofs.YtflpefkohpjjpaaGreatDoor
open Go.RowKit
theorem als(s:ByteArray)(i n:Nat)(hs:s.size≤100000000)(hi:i≤s.size)(h1:n≤3):Q84 s (i:Int) (n:Int)=some (mP (rest s i) n):=by
 unfold Q84 apF
 simp only[Mo.den,ay,ak,au,aA,aB]
 rw[w64 (by omega) (by omega)]
 by_cases h:s.size<i+n
 ·rw[decide_eq_true (show(s.size:Int)<(i:Int)+(n:Int) by omega)]
  show some false=some (mP (rest s i) n)
  unfold mP
  rw[qG,decide_eq_false (show ¬n≤s.size-i by omega)];rfl
 rw[decide_eq_false (show ¬(s.size:Int)<(i:Int)+(n:Int) by omega)]
 have key:Tot (ajW (i:Int) (n:Int) s 0) (fun r=>match r with|.inl _=>mP (rest s i) n=false|.inr _=>mP (rest s i) n=true):=by
  have hT:mP (rest s i) n=((rest s i).take n).all fun c=>iM c.toNat:=by
   unfold mP;rw[qG,decide_eq_true (show n≤s.size-i by omega)];rfl
  rw[hT]
  refine T.qA n (by omega) (fun k v=>v=(k:Int)∧((rest s i).take k).all (fun c=>iM c.toNat)=true) _ ⟨rfl,rfl⟩ ?_ ?_
  ·rintro k v hk ⟨rfl,he⟩
   have hlt:i+k<s.size:=by omega
   have e:kN s (IntKind.wrap .i64 ((i:Int)+(k:Int)))=some s[i+k]:=by
    rw[w64 (by omega) (by omega),show(i:Int)+(k:Int)=((i+k:Nat):Int) by omega];exact og s _ hlt
   have hg:=Xk s i k hlt
   have hc:iM s[i+k].toNat=(decide (128≤s[i+k].toNat)&&decide (s[i+k].toNat≤191)):=rfl
   simp only[Dh,X8,Mo.den,ay,ak,au,aA,aB,iLt hk,cond_true,e,Option.bind_some]
   have bad:iM s[i+k].toNat=false→((rest s i).take n).all (fun c=>iM c.toNat)=false:=fun h=>by
    rw[List.all_eq_false]
    have hm:(s[i+k])∈(rest s i).take n:=List.mem_of_getElem? (by rw[List.getElem?_take_of_lt hk];exact hg)
    exact⟨_,hm,by rw[h];exact Bool.false_ne_true⟩
   by_cases a1:s[i+k].toNat<128
   ·rw[decide_eq_true (show(s[i+k].toNat:Int)<128 by omega)]
    simp only[cond_true,Option.bind_some]
    exact T.ret (bad (by rw[hc,decide_eq_false (show ¬128≤s[i+k].toNat by omega)];rfl))
   rw[decide_eq_false (show ¬(s[i+k].toNat:Int)<128 by omega)];simp only[cond_false,Option.bind_some]
   by_cases a2:191<s[i+k].toNat
   ·rw[decide_eq_true (show(191:Int)<(s[i+k].toNat:Int) by omega)]
    simp only[cond_true]
    exact T.ret (bad (by rw[hc,decide_eq_false (show ¬s[i+k].toNat≤191 by omega),Bool.and_false]))
   rw[decide_eq_false (show ¬(191:Int)<(s[i+k].toNat:Int) by omega)];simp only[cond_false]
   refine T.ret ⟨inc k (by omega),?_⟩
   rw[xO _ hg,he,hc,decide_eq_true (show 128≤s[i+k].toNat by omega),decide_eq_true (show s[i+k].toNat≤191 by omega)];rfl
  ·rintro v ⟨rfl,he⟩
   simp only[Dh,Mo.den,ay,ak,au,aA,aB,ltn,cond_false]
   exact T.ret he
 obtain⟨r,h,hr⟩:=key
 simp only[cond_false,h,Option.bind_some]
 rcases r with r|r
 ·have hr:_=false:=hr
  rw[hr]
 ·have hr:_=true:=hr
  rw[hr]
theorem alu(b:UInt8)(s:ByteArray)(v:Int):U0 b s v=some (match qF b.toNat with|none=>.inr ()|some n=>.inl (n:Int)):=by
 unfold U0 KQ aej aek X9 qF
 simp only[Mo.den,ay,ak,au,aA,aB]
 generalize b.toNat=n
 by_cases a0:n<128
 ·rw[decide_eq_true (show(n:Int)<128 by omega),if_pos a0];rfl
 rw[decide_eq_false (show ¬(n:Int)<128 by omega),if_neg a0];simp only[cond_false]
 by_cases a1:n<194
 ·rw[decide_eq_false (show ¬(194:Int)≤n by omega),decide_eq_false (show ¬(224:Int)≤n by omega),decide_eq_false (show ¬(240:Int)≤n by omega),if_neg (by omega),if_neg (by omega),if_neg (by omega)];rfl
 rw[decide_eq_true (show(194:Int)≤n by omega)];simp only[cond_true,Option.bind_some]
 by_cases a2:n≤223
 ·rw[decide_eq_true (show(n:Int)≤223 by omega),if_pos (by omega)];rfl
 rw[decide_eq_false (show ¬(n:Int)≤223 by omega),decide_eq_true (show(224:Int)≤n by omega),if_neg (by omega)];simp only[cond_false,cond_true,Option.bind_some]
 by_cases a3:n≤239
 ·rw[decide_eq_true (show(n:Int)≤239 by omega),if_pos (by omega)];rfl
 rw[decide_eq_false (show ¬(n:Int)≤239 by omega),decide_eq_true (show(240:Int)≤n by omega),if_neg (by omega)];simp only[cond_false,cond_true,Option.bind_some]
 by_cases a4:n≤244
 ·rw[decide_eq_true (show(n:Int)≤244 by omega),if_pos (by omega)];rfl
 ·rw[decide_eq_false (show ¬(n:Int)≤244 by omega),if_neg (by omega)];rfl
theorem apj{b n:Nat}(h:qF b=some n):n≤3∧(n=0→b<128):=by
 unfold qF at h
 repeat' split at h
 all_goals first|cases h|skip
 all_goals omega
theorem ag0(b1 b2 b3 b4 d1 d2 d3 d4:Bool){β:Type}(K:Bool→Option β):((bif b1 then some d1 else some false).bind fun r1=>(bif r1 then some true else bif b2 then some d2 else some false).bind fun r2=>(bif r2 then some true else bif b3 then some d3 else some false).bind fun r3=>(bif r3 then some true else bif b4 then some d4 else some false).bind fun r4=>K r4)=K ((b1&&d1)||(b2&&d2)||(b3&&d3)||(b4&&d4)):=by
 cases b1<;>cases d1<;>cases b2<;>cases d2<;>cases b3<;>cases d3<;>cases b4<;>rfl
theorem alv(s:ByteArray)(hs:s.size≤100000000):Q1 s=some (qg s):=by
 have key:Tot (ajX s 0) (fun r=>match r with|.inl _=>qg s=false|.inr _=>qg s=true):=by
  refine uU (T:=fun v_=>(uf s v_).den) (fun v:Int=>∃k:Nat,v=(k:Int)∧k≤s.size∧qg s=Lib.validD (rest s k)) (fun v:Int=>s.size-v.toNat) _ ?_ FU 0 ⟨0,rfl,Nat.zero_le _,rfl⟩ (by have:=gW;omega)
  rintro v ⟨k,rfl,hk,he⟩
  have key:Tot (uf s (k:Int)).den (LP (fun v'=>∃k':Nat,v'=(k':Int)∧k<k'∧k'≤s.size∧qg s=Lib.validD (rest s k')) (fun r=>match r with|.inl _=>qg s=false|.inr _=>qg s=true)):=by
   by_cases hlt:k<s.size
   ·simp only[uf,Mo.den,ay,ak,au,aA,aB,iLt hlt,cond_true,og s k hlt,Option.bind_some,alu]
    cases hu:qF s[k].toNat with
    |none=>exact T.ret (show _=false from he.trans (ah0 s k hlt hu))
    |some n=>
     obtain⟨hn,hn0⟩:=apj hu
     simp only[]
     rw[inc k (by omega),als s (k+1) n hs (by omega) hn]
     simp only[Option.bind_some]
     cases ht:mP (rest s (k+1)) n with
     |false=>exact T.ret (show _=false from he.trans (ah1 s k n hlt hu ht))
     |true=>
      have hlen:=afL s (k+1) n ht
      have hodd:∃c:Nat,((rest s k).getD 1 0).toNat=c∧∀{β:Type} (K:Bool→Option β),((abV s[k] (n:Int) s (k:Int)).bind fun r1=>(abW s[k] (n:Int) s r1 (k:Int)).bind fun r2=>(abX s[k] (n:Int) s r2 (k:Int)).bind fun r3=>(abY s[k] (n:Int) s r3 (k:Int)).bind fun r4=>K r4)=K (qU s[k].toNat c):=by
       unfold abV Yb abW Yc abX Yd abY Ye
       simp only[Mo.den,ay,ak,au,aA,aB]
       rw[inc k (by omega)]
       have eb:∀a:Nat,((s[k].toNat:Int)==(a:Int))=(s[k].toNat==a):=fun a=>by rw[Bool.eq_iff_iff];simp;omega
       have e1:=eb 224
       have e2:=eb 237
       have e3:=eb 240
       have e4:=eb 244
       simp only[Int.cast_ofNat_Int] at e1 e2 e3 e4
       rw[e1,e2,e3,e4]
       by_cases h0:n=0
       ·have hb:=hn0 h0
        refine⟨_,rfl,fun K=>?_⟩
        rw[show(s[k].toNat==224)=false by rw[beq_eq_false_iff_ne];omega,show(s[k].toNat==237)=false by rw[beq_eq_false_iff_ne];omega,show(s[k].toNat==240)=false by rw[beq_eq_false_iff_ne];omega,show(s[k].toNat==244)=false by rw[beq_eq_false_iff_ne];omega,aaH _ _ (by omega) (by omega) (by omega) (by omega)]
        rfl
       ·have h1:k+1<s.size:=by omega
        refine⟨s[k+1].toNat,by rw[tu s k 1 h1],fun K=>?_⟩
        rw[og s (k+1) h1]
        simp only[Option.bind_some]
        rw[show decide ((s[k+1].toNat:Int)<160)=decide (s[k+1].toNat<160) by rw[decide_eq_decide];omega,show decide ((159:Int)<(s[k+1].toNat:Int))=decide (159<s[k+1].toNat) by rw[decide_eq_decide];omega,show decide ((s[k+1].toNat:Int)<144)=decide (s[k+1].toNat<144) by rw[decide_eq_decide];omega,show decide ((143:Int)<(s[k+1].toNat:Int))=decide (143<s[k+1].toNat) by rw[decide_eq_decide];omega,ag0]
        rfl
      obtain⟨c,hc,hch⟩:=hodd
      simp only[Bool.not_true,cond_false]
      rw[hch]
      cases ho:qU s[k].toNat c with
      |true=>exact T.ret (show _=false from he.trans (amF s k n c hlt hu hc ho))
      |false=>exact T.ret ⟨k+n+1,by rw[w64 (x:=(k:Int)+(n:Int)) (by omega) (by omega),w64 (by omega) (by omega)];omega,by omega,by omega,he.trans (aqE s k n c hlt hu ht hc ho)⟩
   ·simp only[uf,Mo.den,ay,ak,au,aA,aB,afF hlt,cond_false]
    have:k=s.size:=by omega
    refine T.ret (show _=true from he.trans ?_)
    have hn:rest s k=[]:=List.eq_nil_of_length_eq_zero (by rw[qG];omega)
    rw[hn];rfl
  obtain⟨r,h2,h3⟩:=key
  rcases r with v'|r
  ·obtain⟨k',rfl,h4,h5,h6⟩:=h3
   exact .inl ⟨_,h2,⟨k',rfl,h5,h6⟩,by omega⟩
  ·exact .inr ⟨r,h2,h3⟩
 unfold Q1 auu
 simp only[Mo.den,ay,ak,au,aA,aB]
 obtain⟨r,h,hr⟩:=key
 rw[h]
 rcases r with r|r
 ·have hr:_=false:=hr
  rw[hr];rfl
 ·have hr:_=true:=hr
  rw[hr];rfl
theorem ag1(l:List Nat)(k:Nat):lS (l.take k)≤lS l:=by
 have h:=D8 (l.take k) (l.drop k)
 rw[List.take_append_drop] at h
 omega
theorem pq{α β:Type}(f:α→β){l:List α}{k:Nat}{x:α}(h:l[k]?=some x):(l.take (k+1)).map f=(l.take k).map f++[f x]:=by
 have hk:=oM h
 rw[List.take_succ_eq_append_getElem hk,List.map_append]
 have:l[k]=x:=by rw[List.getElem?_eq_getElem hk] at h;injection h
 rw[this];rfl
theorem acG(n:Nat):∀(F:Nat) (v:ah),1≤n→n<F→n≤2000→aT v.lf1≤100000000→(AU F).m1 v (n:Int)=some ((min v.cnt n:Nat):Int):=by
 induction n using Nat.strongRecOn with
 |_ n ih=>
  intro F v h1 hF hn hb
  obtain⟨F,rfl⟩:∃G,F=G+1:=⟨F-1,by omega⟩
  have hpl:=RD v
  have hcp:=Gm v
  have key:Tot (ajT (AU F) (n:Int) (parts v) 1 0) (fun r=>r=((min v.cnt n:Nat):Int)):=by
   refine T.qA (parts v).length (by omega) (fun k s=>s.2=(k:Int)∧s.1=((min (1+lS (((parts v).take k).map ah.cnt)) n:Nat):Int)) _ ⟨rfl,by show(1:Int)=((min (1+0) n:Nat):Int);omega⟩ ?_ ?_
   ·rintro k ⟨a,i⟩ hk ⟨h3,h4⟩
    obtain rfl:i=(k:Int):=h3
    obtain rfl:a=((min (1+lS (((parts v).take k).map ah.cnt)) n:Nat):Int):=h4
    have hx:=List.getElem?_eq_getElem hk
    have hxb:=vU (iR hx)
    have hsx:lS (((parts v).take (k+1)).map ah.cnt)=lS (((parts v).take k).map ah.cnt)+(parts v)[k].cnt:=by
     rw[pq _ hx,D8];rfl
    have hst:lS (((parts v).take k).map ah.cnt)≤lS ((parts v).map ah.cnt):=by
     rw[List.map_take];exact ag1 _ _
    unfold Df
    simp only[KP,Mo.den,ay,ak,au,aA,aB,ltt hx,gid hx,cond_true,Option.bind_some]
    by_cases hlt:1+lS (((parts v).take k).map ah.cnt)<n
    ·rw[decide_eq_true (show((min (1+lS (((parts v).take k).map ah.cnt)) n:Nat):Int)<(n:Int) by omega), w64 (by omega) (by omega), show(n:Int)-((min (1+lS (((parts v).take k).map ah.cnt)) n:Nat):Int)=((n-(1+lS (((parts v).take k).map ah.cnt)):Nat):Int) by omega, ih _ (by omega) F _ (by omega) (by omega) (by omega) (by omega)]
     simp only[cond_true,Option.bind_some]
     refine T.ret ⟨inc k (by omega),?_⟩
     show IntKind.wrap .i64 (((min (1+lS (((parts v).take k).map ah.cnt)) n:Nat):Int)+((min (parts v)[k].cnt (n-(1+lS (((parts v).take k).map ah.cnt))):Nat):Int))=_
     rw[w64 (by omega) (by omega),hsx];omega
    ·rw[decide_eq_false (show ¬((min (1+lS (((parts v).take k).map ah.cnt)) n:Nat):Int)<(n:Int) by omega)]
     exact T.ret (show _=_ by rw[hcp];omega)
   ·rintro⟨a,i⟩ ⟨h3,h4⟩
    obtain rfl:i=((parts v).length:Int):=h3
    obtain rfl:a=_:=h4
    unfold Df
    simp only[KP,Mo.den,ay,ak,au,aA,aB,ltn,cond_false,Option.bind_some]
    refine T.ret (show _=_ from ?_)
    rw[List.take_length,hcp]
  obtain⟨r,hr,rfl⟩:=key
  simp only[AU,ajU,Mo.den,ay,ak,au,aA,aB,Rz v hb,Option.bind_some,hr]
theorem atK(a b n:Nat):(if((min b n:Nat):Int) > ((min a n:Nat):Int) then((min b n:Nat):Int) else((min a n:Nat):Int))=((min (max a b) n:Nat):Int):=by
 have h1:min (max a b) n=max (min a n) (min b n):=by
  rcases Nat.le_total a b with h|h<;>rcases Nat.le_total a n with h2|h2<;>rcases Nat.le_total b n with h3|h3<;>simp only[Nat.max_eq_left,Nat.max_eq_right,Nat.min_eq_left,Nat.min_eq_right,h,h2,h3]<;>omega
 rw[h1]
 generalize min a n=x
 generalize min b n=y
 by_cases h:(y:Int) > (x:Int)
 ·rw[if_pos h,Nat.max_eq_right (by omega)]
 ·rw[if_neg h,Nat.max_eq_left (by omega)]
theorem ZF(n:Nat):∀(F:Nat) (v:ah),1≤n→n<F→n≤2000→aT v.lf1≤100000000→(AQ F).m1 v (n:Int)=some ((min v.dep n:Nat):Int):=by
 induction n with
 |zero=>intro F v h;omega
 |succ n ih=>
  intro F v h1 hF hn hb
  obtain⟨F,rfl⟩:∃G,F=G+1:=⟨F-1,by omega⟩
  have hpl:=RD v
  have hcp:=Gn v
  simp only[AQ,ajR,X7,Mo.den,ay,ak,au,aA,aB,Rz v hb,Option.bind_some]
  by_cases h2:n=0
  ·subst h2
   show some (1:Int)=_
   rw[hcp];congr 1;omega
  rw[decide_eq_false (show ¬((n+1:Nat):Int)<2 by omega)]
  simp only[cond_false,Option.bind_some]
  by_cases hp:parts v=[]
  ·rw[hp] at hcp ⊢
   show some (1:Int)=_
   rw[hcp,show min (1+oh (([]:List ah).map ah.dep)) (n+1)=1 by show min (1+0) (n+1)=1;omega];rfl
  have hlp:1≤(parts v).length:=by cases hq:parts v with|nil=>exact absurd hq hp|cons x r=>simp
  rw[show(((parts v).length:Int)==0)=false by rw[beq_eq_false_iff_ne];omega]
  simp only[cond_false]
  have key:Tot (ajQ (AQ F) ((n+1:Nat):Int) (parts v) 0 0) (fun r=>r=((min (oh ((parts v).map ah.dep)) n:Nat):Int)):=by
   refine T.qA (parts v).length (by omega) (fun k s=>s.2=(k:Int)∧s.1=((min (oh (((parts v).take k).map ah.dep)) n:Nat):Int)) _ ⟨rfl,by show(0:Int)=((min 0 n:Nat):Int);omega⟩ ?_ ?_
   ·rintro k ⟨a,i⟩ hk ⟨h3,h4⟩
    obtain rfl:i=(k:Int):=h3
    obtain rfl:a=((min (oh (((parts v).take k).map ah.dep)) n:Nat):Int):=h4
    have hx:=List.getElem?_eq_getElem hk
    have hxb:=vU (iR hx)
    have hsx:oh (((parts v).take (k+1)).map ah.dep)=max (oh (((parts v).take k).map ah.dep)) (parts v)[k].dep:=by
     rw[pq _ hx,Lr];show max _ (max (parts v)[k].dep 0)=_;omega
    simp only[Dc,Mo.den,ay,ak,au,aA,aB,ltt hx,gid hx,cond_true,Option.bind_some]
    rw[w64 (by omega) (by omega),show((n+1:Nat):Int)-1=(n:Int) by omega,ih F _ (by omega) (by omega) (by omega) (by omega)]
    simp only[Option.bind_some]
    refine T.ret ⟨inc k (by omega),?_⟩
    rw[hsx]
    exact atK _ _ _
   ·rintro⟨a,i⟩ ⟨h3,h4⟩
    obtain rfl:i=((parts v).length:Int):=h3
    obtain rfl:a=_:=h4
    simp only[Dc,Mo.den,ay,ak,au,aA,aB,ltn,cond_false]
    refine T.ret (show _=_ from ?_)
    rw[List.take_length]
  obtain⟨r,hr,rfl⟩:=key
  rw[hr]
  simp only[Option.bind_some]
  rw[w64 (by omega) (by omega),hcp]
  congr 1;omega
theorem acH(v:ah)(hb:aT v.lf1≤100000000):asw v=some ((min v.cnt 1025:Nat):Int):=by
 have h:=acG 1025 FU v (by omega) (by have:=gW;omega) (by omega) hb
 have h:Q61 v 1025=_:=h
 simp only[asw,ajV,Mo.den,ay,ak,au,aA,aB,h,Option.bind_some]
theorem acI(v:ah)(hb:aT v.lf1≤100000000):asu v=some ((min v.dep 17:Nat):Int):=by
 have h:=ZF 17 FU v (by omega) (by have:=gW;omega) (by omega) hb
 have h:Q63 v 17=_:=h
 simp only[asu,ajS,Mo.den,ay,ak,au,aA,aB,h,Option.bind_some]
end Go.Proofs.YtflpefkohpjjpaaGreatDoor
set_option linter.unusedSimpArgs false
set_option linter.unusedVariables false
namespace Go.Proofs.YtflpefkohpjjpaaGreatDoor
open Go.RowKit
theorem ZG(R:nP)(v:ah)(hl:v.aU.length≤100000000)(h1:∀x∈v.aU,R.m1 x.fValue true=some x.fValue.snd):Mo.den (aer R v true)=some (aJ.jO [] v.aU):=by
 unfold aer
 simp only[Mo.den,ay,ak,au,aA,aB]
 have key:Tot (aep R true v 0) (fun r=>match r with|.inl _=>aJ.jO [] v.aU=false|.inr _=>aJ.jO [] v.aU=true):=by
  refine T.qA v.aU.length (by omega) (fun k s=>s=(k:Int)∧aJ.jO [] v.aU=aJ.jO ((v.aU.take k).map aJ.fName).reverse (v.aU.drop k)) _ ⟨rfl,rfl⟩ ?_ ?_
  ·rintro k s hk ⟨rfl,he⟩
   have hx:=List.getElem?_eq_getElem hk
   have hdr:v.aU.drop k=v.aU[k]::v.aU.drop (k+1):=List.drop_eq_getElem_cons hk
   have q1:=h1 v.aU[k] (List.getElem_mem hk)
   have hm:((v.aU.take (k+1)).map aJ.fName).reverse=v.aU[k].fName::((v.aU.take k).map aJ.fName).reverse:=by
    rw[pq _ hx,List.reverse_append];rfl
   have hin:Tot (aeo R true v (k:Int) v.aU[k] 0) (fun r=>match r with|.inl _=>hasB v.aU[k].fName ((v.aU.take k).map aJ.fName).reverse=true|.inr _=>hasB v.aU[k].fName ((v.aU.take k).map aJ.fName).reverse=false):=by
    have hB:hasB v.aU[k].fName ((v.aU.take k).map aJ.fName).reverse=((v.aU.take k).map aJ.fName).any (fun q=>decide (v.aU[k].fName=q)):=by unfold hasB;rw[List.any_reverse]
    rw[hB]
    refine T.qA k (by omega) (fun j w=>w=(j:Int)∧∀q∈v.aU.take j,¬q.fName=v.aU[k].fName) _ ⟨rfl,by simp⟩ ?_ ?_
    ·rintro j w hj ⟨rfl,hq⟩
     have hy:=List.getElem?_eq_getElem (show j<v.aU.length by omega)
     simp only[yT,Mo.den,ay,ak,au,aA,aB,iLt hj,gid hy,cond_true,Option.bind_some]
     by_cases e:v.aU[j].fName=v.aU[k].fName
     ·rw[decide_eq_true e]
      refine T.ret (show _=true from ?_)
      rw[List.any_eq_true]
      exact⟨_,List.mem_map.2 ⟨v.aU[j],List.mem_of_getElem? (by rw[List.getElem?_take_of_lt hj];exact hy),rfl⟩,decide_eq_true e.symm⟩
     ·rw[decide_eq_false e]
      refine T.ret ⟨inc j (by omega),fun q hm=>?_⟩
      rw[List.take_succ_eq_append_getElem (oM hy),List.mem_append] at hm
      rcases hm with hm|hm
      ·exact hq q hm
      ·rw[List.mem_singleton.1 hm];exact e
    ·rintro w ⟨rfl,hq⟩
     simp only[yT,Mo.den,ay,ak,au,aA,aB,ltn,cond_false]
     refine T.ret (show _=false from ?_)
     rw[List.any_eq_false]
     intro q hm
     obtain⟨y,hy,rfl⟩:=List.mem_map.1 hm
     rw[decide_eq_false fun e=>hq y hy e.symm];exact Bool.false_ne_true
   rw[hdr] at he
   have hf:aJ.jO ((v.aU.take k).map aJ.fName).reverse (v.aU[k]::v.aU.drop (k+1))=((nameB v.aU[k].fName&&!hasB v.aU[k].fName ((v.aU.take k).map aJ.fName).reverse)&&(v.aU[k].fValue.snd&&aJ.jO (v.aU[k].fName::((v.aU.take k).map aJ.fName).reverse) (v.aU.drop (k+1)))):=by
    cases v.aU[k] with|mk n x=>rw[Lu];simp only[aJ.fName,aJ.fValue]
   rw[hf,←hm] at he
   obtain⟨r,hin,hr⟩:=hin
   simp only[yU,Yr,Yt,Qb,Mo.den,ay,ak,au,aA,aB,ltt hx,gid hx,cond_true,Option.bind_some,qN,q1,hin]
   cases a:nameB v.aU[k].fName with
   |false=>rw[a] at he;exact T.ret (show _=false by rw[he];rfl)
   |true=>
    cases c:v.aU[k].fValue.snd with
    |false=>rw[a,c] at he;exact T.ret (show _=false by rw[he];simp)
    |true=>
     rw[a,c] at he
     rcases r with r|r
     ·have hr:_=true:=hr
      rw[hr] at he
      exact T.ret (show _=false by rw[he];rfl)
     ·have hr:_=false:=hr
      rw[hr] at he
      exact T.ret ⟨inc k (by omega),by rw[he];rfl⟩
  ·rintro s ⟨rfl,he⟩
   rw[List.drop_length,RI] at he
   simp only[yU,Mo.den,ay,ak,au,aA,aB,ltn,cond_false]
   exact T.ret he
 obtain⟨r,h,hr⟩:=key
 rw[h]
 rcases r with r|r
 ·have hr:_=false:=hr
  rw[hr];all_goals rfl
 ·have hr:_=true:=hr
  rw[hr];all_goals rfl
theorem acJ(R:nP)(v:ah)(hl:v.aW.length≤100000000)(h1:∀x∈v.aW,R.m1 x true=some x.snd):Tot (ajY R true v 0) (fun r=>match r with|.inl _=>ah.jO v.aW=false|.inr _=>ah.jO v.aW=true):=by
 rw[Ls]
 refine T.qA v.aW.length (by omega) (fun k s=>s=(k:Int)∧(v.aW.take k).all ah.snd=true) _ ⟨rfl,by simp⟩ ?_ ?_
 ·rintro k s hk ⟨rfl,he⟩
  have hx:=List.getElem?_eq_getElem hk
  simp only[Dk,Mo.den,ay,ak,au,aA,aB,ltt hx,gid hx,cond_true,Option.bind_some,h1 _ (List.getElem_mem hk)]
  cases c:v.aW[k].snd with
  |false=>exact T.ret (VO _ hx c)
  |true=>exact T.ret ⟨inc k (by omega),by rw[xO _ hx,he,c];rfl⟩
 ·rintro s ⟨rfl,he⟩
  simp only[Dk,Mo.den,ay,ak,au,aA,aB,ltn,cond_false]
  rw[List.take_length] at he
  exact T.ret he
theorem ZH:∀(F:Nat) (v:ah),2*aT v.lf1≤F→aT v.lf1≤100000000→(qJ F).m1 v true=some v.snd:=by
 intro F
 induction F using Nat.strongRecOn with
 |_ F ih=>
 intro v hF hb
 have hp:=dW v
 have hl:=jf v.aW
 have hd:=iQ v.aU
 obtain⟨F,rfl⟩:∃G,F=G+2:=⟨F-2,by omega⟩
 show Mo.den (aok (qJ (F+1)) v true)=_
 have hL:=acJ (qJ (F+1)) v (by omega) fun x hx=>ih (F+1) (by omega) x (by have:=jK hx;omega) (by have:=jK hx;omega)
 have hD:(qJ (F+1)).m2 v true=some (aJ.jO [] v.aU):=ZG (qJ F) v (by omega) fun x hx=>ih F (by omega) x.fValue (by have:=iC hx;rw[fV] at this;omega) (by have:=iC hx;rw[fV] at this;omega)
 have hU:=alv v.fText (by omega)
 obtain⟨r0,hL,hr0⟩:=hL
 clear ih hF hb hp hl hd
 rw[acE]
 unfold aok
 simp only[aem,aen,Yf,Yg,Yh,Yi,Yj,Yk,Yl,Ym,Yn,Yo,Yp,Yq,Mo.den,ay,ak,au,aA,aB,hL,hD,hU]
 clear hL hD hU
 generalize v.aF=k at *
 generalize v.fA=i at *
 generalize v.fText=s at *
 generalize v.aW=l at *
 generalize v.aU=d at *
 unfold EM Ja
 have ei:(i != 0)=!(i==0):=rfl
 have es:∀dd:Decidable (s=(⟨#[]⟩:ByteArray)),@decide _ dd=decide (s.size=0):=fun dd=>by
  by_cases h:s.size=0
  ·rw[decide_eq_true h,decide_eq_true (size_nil (by omega))]
  ·rw[decide_eq_false h,decide_eq_false (VP (by omega))]
 have el:decide ((0:Int)<(l.length:Int))=!(l.length==0):=by
  cases l with
  |nil=>rfl
  |cons x r=>rw[decide_eq_true (show(0:Int)<((x::r).length:Int) by rw[List.length_cons];omega)];rfl
 have ed:decide ((0:Int)<(d.length:Int))=!(d.length==0):=by
  cases d with
  |nil=>rfl
  |cons x r=>rw[decide_eq_true (show(0:Int)<((x::r).length:Int) by rw[List.length_cons];omega)];rfl
 simp only[ei,es,el,ed]
 have e4:decide ((s.size:Int)≤4096)=decide (s.size≤4096):=by rw[Bool.eq_iff_iff];simp;omega
 have e12:((s.size:Int)==12)=decide (s.size=12):=by rw[Bool.eq_iff_iff];simp;omega
 simp only[e4,e12]
 have hl0:(l.length==0)=true→ah.jO l=true:=fun h=>by
  have:l=[]:=List.eq_nil_of_length_eq_zero (by simpa using h)
  rw[this];unfold ah.jO;rfl
 have hd0:(d.length==0)=true→aJ.jO [] d=true:=fun h=>by
  have:d=[]:=List.eq_nil_of_length_eq_zero (by simpa using h)
  rw[this];unfold aJ.jO;rfl
 clear ei es el ed e4 e12
 generalize ah.jO l=A at *
 generalize aJ.jO [] d=B at *
 generalize (l.length==0)=nl at *
 generalize (d.length==0)=nd at *
 generalize qg s=u at *
 generalize decide (s.size≤4096)=c1 at *
 generalize decide (s.size=12)=c2 at *
 generalize decide (s.size=0)=c3 at *
 have hk:k=1∨k=2∨k=3∨k=4∨k=5∨k=6∨k=7∨k=8∨k=9∨k=10∨k=11∨(k≠1∧k≠2∧k≠3∧k≠4∧k≠5∧k≠6∧k≠7∧k≠8∧k≠9∧k≠10∧k≠11):=by omega
 rcases hk with rfl|rfl|rfl|rfl|rfl|rfl|rfl|rfl|rfl|rfl|rfl|⟨n1,n2,n3,n4,n5,n6,n7,n8,n9,n10,n11⟩
 case inr.inr.inr.inr.inr.inr.inr.inr.inr.inr.inr=>
  have f:∀c:Int,k≠c→(k==c)=false:=fun c h=>by simpa using h
  simp only[bne,f _ n1,f _ n2,f _ n3,f _ n4,f _ n5,f _ n6,f _ n7,f _ n8,f _ n9,f _ n10,f _ n11]
  simp only[n1,n2,n3,n4,n5,n6,n7,n8,n9,n10,n11,or_self,if_false,decide_false]
  rcases(show k<1∨11<k by omega) with h|h
  ·rw[decide_eq_true h];cases nl<;>cases nd<;>cases c3<;>cases (i==0)<;>rfl
  ·rw[decide_eq_true h,decide_eq_false (show ¬k<1 by omega)];cases nl<;>cases nd<;>cases c3<;>cases (i==0)<;>rfl
 all_goals (rcases r0 with r0|r0<;>(have hr0:A=_:=hr0;subst hr0))
 all_goals simp(decide:=true) only[if_true,if_false]
 all_goals (cases nl<;>cases nd<;>cases c3<;>cases (i==0)<;>first|rfl|skip)
 all_goals (first|(cases B<;>first|rfl|(exact absurd (hl0 rfl) (by decide))|(exact absurd (hd0 rfl) (by decide))|skip)|skip)
 all_goals (cases u<;>cases c1<;>cases c2<;>first|rfl|(cases (i==1)<;>rfl)|(cases decide (0≤i)<;>rfl))
theorem acK(v:ah)(hb:aT v.lf1≤100000000):Q5 v true=some v.snd:=ZH FU v (by have:=gW;omega) hb
theorem lT(v:ah)(hb:aT v.lf1≤100000000):asA v=some (oq v):=by
 simp only[asA,ajZ,Mo.den,ay,ak,au,aA,aB,acH v hb,acI v hb,acK v hb,Option.bind_some,oq]
 rw[show decide (((min v.cnt 1025:Nat):Int)≤1024)=decide (v.cnt≤1024) by rw[Bool.eq_iff_iff];simp;omega,show decide (((min v.dep 17:Nat):Int)≤16)=decide (v.dep≤16) by rw[Bool.eq_iff_iff];simp;omega]
 cases decide (v.cnt≤1024)<;>cases decide (v.dep≤16)<;>rfl
end Go.Proofs.YtflpefkohpjjpaaGreatDoor
set_option linter.unusedSimpArgs false
set_option linter.unusedVariables false
namespace Go.Proofs.YtflpefkohpjjpaaGreatDoor
open Go.RowKit
def dF{ε:Type}(f:Nat→Option ε):Nat→Nat→Option ε
 |_,0=>none
 |k,n+1=>match f k with|some e=>some e|none=>dF f (k+1) n
def jB{ε:Type}:Option ε→ε⊕Unit
 |some e=>.inl e
 |none=>.inr ()
theorem Ee{ε:Type}{f g:Nat→Option ε}:∀(n k:Nat),(∀i,k≤i→i<k+n→f i=g i)→dF f k n=dF g k n
 |0,_,_=>rfl
 |n+1,k,h=>by
  unfold dF
  rw[h k (Nat.le_refl _) (by omega),Ee n (k+1) fun i h1 h2=>h i (by omega) (by omega)]
theorem ZI{ε:Type}{T:Int→Option (Int⊕(ε⊕Unit))}(f:Nat→Option ε)(n:Nat)(hn:n≤1000000000)(h:∀k:Nat,k<n→T (k:Int)=some (match f k with|some e=>.inr (.inl e)|none=>.inl (IntKind.wrap .i64 ((k:Int)+1))))(he:T (n:Int)=some (.inr (.inr ()))):
 ∀m k F,k+m=n→m<F→bW T F (k:Int)=some (jB (dF f k m)):=by
 intro m
 induction m with
 |zero=>
  intro k F hk hF
  obtain⟨F,rfl⟩:∃G,F=G+1:=⟨F-1,by omega⟩
  obtain rfl:k=n:=by omega
  unfold bW
  rw[he];rfl
 |succ m ih=>
  intro k F hk hF
  obtain⟨F,rfl⟩:∃G,F=G+1:=⟨F-1,by omega⟩
  unfold bW dF
  rw[h k (by omega)]
  cases f k with
  |some e=>rfl
  |none=>
   show bW T F (IntKind.wrap .i64 ((k:Int)+1))=_
   rw[inc k (by omega)]
   exact ih (k+1) F (by omega) (by omega)
theorem dU{ε:Type}{T:Int→Option (Int⊕(ε⊕Unit))}(f:Nat→Option ε)(n:Nat)(hn:n≤1000000000)(h:∀k:Nat,k<n→T (k:Int)=some (match f k with|some e=>.inr (.inl e)|none=>.inl (IntKind.wrap .i64 ((k:Int)+1))))(he:T (n:Int)=some (.inr (.inr ()))):
 bW T FU 0=some (jB (dF f 0 n)):=ZI f n hn h he n 0 FU (by omega) (by have:=gW;omega)
def hit(b:Bool):Option Unit:=bif b then some () else none
def acL(a b:List ByteArray)(k:Nat):Bool:=decide (a[k]?=b[k]?)
theorem RJ(a b:List ByteArray)(hl:a.length=b.length):∀(n k:Nat),k+n=a.length→(dF (fun k=>hit (!acL a b k)) k n=none↔a.drop k=b.drop k)
 |0,k,h=>by
  rw[List.drop_eq_nil_of_le (by omega),List.drop_eq_nil_of_le (by omega)]
  exact⟨fun _=>rfl,fun _=>rfl⟩
 |n+1,k,h=>by
  have e1:a.drop k=a[k]::a.drop (k+1):=List.drop_eq_getElem_cons (by omega)
  have e2:b.drop k=b[k]::b.drop (k+1):=List.drop_eq_getElem_cons (by omega)
  have ih:=RJ a b hl n (k+1) (by omega)
  rw[e1,e2]
  unfold dF
  have hk:acL a b k=decide (a[k]=b[k]):=by
   unfold acL
   rw[List.getElem?_eq_getElem (by omega),List.getElem?_eq_getElem (by omega),decide_eq_decide]
   exact⟨fun e=>by injection e,fun e=>by rw[e]⟩
  rw[hk]
  by_cases h:a[k]=b[k]
  ·rw[decide_eq_true h,h]
   show dF (fun k=>hit (!acL a b k)) (k+1) n=none↔_
   rw[ih]
   exact⟨fun h=>by rw[h],fun h=>by injection h⟩
  ·rw[decide_eq_false h]
   constructor
   ·intro h;cases h
   ·intro e;injection e with e;exact absurd e h
theorem afa{T:Int→Option (Int⊕(Unit⊕Unit))}(a b:List ByteArray)(hl:a.length=b.length)(hn:a.length≤1000000000)(h:∀k:Nat,∀x y:ByteArray,a[k]?=some x→b[k]?=some y→T (k:Int)=some (bif !decide (x=y) then .inr (.inl ()) else .inl (IntKind.wrap .i64 ((k:Int)+1))))(he:T (a.length:Int)=some (.inr (.inr ()))):
 bW T FU 0=some (jB (hit (!decide (a=b)))):=by
 rw[dU (fun k=>hit (!acL a b k)) a.length hn (fun k hk=>by
  have ha:=List.getElem?_eq_getElem hk
  have hb:=List.getElem?_eq_getElem (show k<b.length by omega)
  rw[h k _ _ ha hb]
  unfold acL
  rw[ha,hb]
  by_cases e:a[k]=b[k]
  ·rw[decide_eq_true e,decide_eq_true (by rw[e])];rfl
  ·rw[decide_eq_false e,decide_eq_false (by intro q;injection q with q;exact e q)];rfl) he]
 have hk:=RJ a b hl a.length 0 (by omega)
 rw[List.drop_zero,List.drop_zero] at hk
 by_cases e:a=b
 ·rw[hk.2 e,decide_eq_true e];rfl
 ·rw[decide_eq_false e]
  cases hf:dF (fun k=>hit (!acL a b k)) 0 a.length with
  |none=>exact absurd (hk.1 hf) e
  |some u=>rfl
theorem acM(a b:List ByteArray)(hn:a.length≤1000000000):Q87 a b=some (decide (a=b)):=by
 unfold Q87 aiP
 simp only[Mo.den,ay,ak,au,aA,aB]
 by_cases hl:a.length=b.length
 ·rw[show((a.length:Int) != (b.length:Int))=false by rw[hl];simp]
  simp only[cond_false]
  try unfold arp
  rw[afa a b hl hn (fun k x y hx hy=>by simp only[wU,Mo.den,ay,ak,au,aA,aB,ltt hx,gid hx,gid hy,cond_true,Option.bind_some];cases decide (x=y)<;>rfl) (by simp only[wU,Mo.den,ay,ak,au,aA,aB,ltn,cond_false])]
  cases decide (a=b)<;>rfl
 ·rw[show((a.length:Int) != (b.length:Int))=true by simp;omega,decide_eq_false (fun e=>hl (by rw[e]))];rfl
theorem ZJ(a b:List ByteArray)(hn:a.length≤1000000000):Q85 a b=some (decide (a=b)):=by
 unfold Q85 apU
 simp only[Mo.den,ay,ak,au,aA,aB]
 by_cases hl:a.length=b.length
 ·rw[show((a.length:Int) != (b.length:Int))=false by rw[hl];simp]
  simp only[cond_false]
  try unfold acr
  rw[afa a b hl hn (fun k x y hx hy=>by simp only[ug,Mo.den,ay,ak,au,aA,aB,ltt hx,gid hx,gid hy,cond_true,Option.bind_some];cases decide (x=y)<;>rfl) (by simp only[ug,Mo.den,ay,ak,au,aA,aB,ltn,cond_false])]
  cases decide (a=b)<;>rfl
 ·rw[show((a.length:Int) != (b.length:Int))=true by simp;omega,decide_eq_false (fun e=>hl (by rw[e]))];rfl
def oP(l:List bn)(p:List ByteArray)(k:Nat):Option Unit:=dF (fun j=>match l[j]? with|some y=>hit (decide (y.cO=p))|none=>none) 0 k
def Bl(l:List bn)(k:Nat):Option Int:=match l[k]? with|some x=>bif !rF x.cO then some 10 else(match oP l x.cO k with|some _=>some 12|none=>none)|none=>none
noncomputable def IE(l:List bn):Int:=bif decide (8<l.length) then 2 else match dF (Bl l) 0 l.length with|some e=>e|none=>0
theorem ZK{l:List bn}{x:bn}(hb:dH (l.map bn.lf)≤100000000)(h:x∈l):x.cO.length≤100000000:=by
 have h1:=jq bn.lf h
 have h2:=oJ x
 have h3:=iy x.cO
 have h4:aT (bn.lf x)=aT x.lf1:=rfl
 omega
theorem H8(l:List bn)(hb:dH (l.map bn.lf)≤100000000):Q81 l=some (IE l):=by
 have hl:=ny l
 unfold Q81 aiQ IE
 simp only[Mo.den,ay,ak,au,aA,aB]
 by_cases h8:8<l.length
 ·rw[decide_eq_true h8,decide_eq_true (show(8:Int)<(l.length:Int) by omega)];rfl
 rw[decide_eq_false h8,decide_eq_false (show ¬(8:Int)<(l.length:Int) by omega)]
 simp only[cond_false]
 try unfold ars
 rw[dU (Bl l) l.length (by omega) (fun k hk=>by
  have hx:=List.getElem?_eq_getElem hk
  have hm:=iR hx
  have hg:(0:Int)≤0∧(0:Int)≤(k:Int)∧(k:Int)≤(l.length:Int):=by omega
  have hin:aa1 l (k:Int) l[k] 0=some (jB (oP l l[k].cO k)):=by
   unfold aa1 oP
   have hn:(l.take (k:Int).toNat).length=k:=by rw[List.length_take,Int.toNat_natCast];omega
   refine dU _ k (by omega) (fun j hj=>?_) ?_
   ·have hy:=List.getElem?_eq_getElem (show j<l.length by omega)
    have hy2:(l.take (k:Int).toNat)[j]?=some l[j]:=by rw[Int.toNat_natCast,List.getElem?_take_of_lt hj];exact hy
    simp only[wV,Mo.den,ay,ak,au,aA,aB,hn,iLt hj,gid hy2,cond_true,Option.bind_some,acM _ _ (Nat.le_trans (ZK hb (iR hy)) (by omega)),hy]
    cases decide (l[j].cO=l[k].cO)<;>rfl
   ·simp only[wV,Mo.den,ay,ak,au,aA,aB,hn,ltn,cond_false]
  simp only[wW,Mo.den,ay,ak,au,aA,aB,ltt hx,gid hx,cond_true,Option.bind_some,kY,if_pos hg,hin,Bl,hx]
  cases rF l[k].cO with
  |false=>rfl
  |true=>cases oP l l[k].cO k<;>rfl) (by simp only[wW,Mo.den,ay,ak,au,aA,aB,ltn,cond_false])]
 cases dF (Bl l) 0 l.length<;>rfl
theorem VT(l:List bn)(hb:dH (l.map bn.lf)≤100000000):Q54 l=some (IE l):=by
 have hl:=ny l
 unfold Q54 apV IE
 simp only[Mo.den,ay,ak,au,aA,aB]
 by_cases h8:8<l.length
 ·rw[decide_eq_true h8,decide_eq_true (show(8:Int)<(l.length:Int) by omega)];rfl
 rw[decide_eq_false h8,decide_eq_false (show ¬(8:Int)<(l.length:Int) by omega)]
 simp only[cond_false]
 try unfold atd
 rw[dU (Bl l) l.length (by omega) (fun k hk=>by
  have hx:=List.getElem?_eq_getElem hk
  have hm:=iR hx
  have hin:acs l (k:Int) 0=some (jB (oP l l[k].cO k)):=by
   unfold acs oP
   refine dU _ k (by omega) (fun j hj=>?_) ?_
   ·have hy:=List.getElem?_eq_getElem (show j<l.length by omega)
    have es:decide (l[k].cO=l[j].cO)=decide (l[j].cO=l[k].cO):=by rw[decide_eq_decide];exact⟨Eq.symm,Eq.symm⟩
    simp only[DI,Mo.den,ay,ak,au,aA,aB,iLt hj,gid hx,gid hy,cond_true,Option.bind_some,ZJ _ _ (Nat.le_trans (ZK hb hm) (by omega)),hy,es]
    cases decide (l[j].cO=l[k].cO)<;>rfl
   ·simp only[DI,Mo.den,ay,ak,au,aA,aB,ltn,cond_false]
  simp only[DJ,Mo.den,ay,ak,au,aA,aB,ltt hx,gid hx,cond_true,Option.bind_some,D7,hin,Bl,hx]
  cases rF l[k].cO with
  |false=>rfl
  |true=>cases oP l l[k].cO k<;>rfl) (by simp only[DJ,Mo.den,ay,ak,au,aA,aB,ltn,cond_false])]
 cases dF (Bl l) 0 l.length<;>rfl
end Go.Proofs.YtflpefkohpjjpaaGreatDoor
set_option linter.unusedSimpArgs false
set_option linter.unusedVariables false
namespace Go.Proofs.YtflpefkohpjjpaaGreatDoor
open Go.RowKit
theorem ag2(v:ah):anu v=some (jG v):=by
 simp only[anu,abd,dR,mW,mV,o8,o7,Mo.den,ay,ak,au,aA,aB,jG]
 cases v.aF==0<;>cases v.fA==0<;>cases decide (v.fText=⟨#[]⟩)<;>cases (v.aW.length:Int)==0<;>rfl
theorem Gv(v:ah):ano v=some (jG v):=by
 simp only[ano,aa7,dR,mW,mV,o8,o7,Mo.den,ay,ak,au,aA,aB,jG]
 cases v.aF==0<;>cases v.fA==0<;>cases decide (v.fText=⟨#[]⟩)<;>cases (v.aW.length:Int)==0<;>rfl
theorem afb(v:ah):anD v=some (jG v):=by
 simp only[anD,abm,dR,mW,mV,o8,o7,Mo.den,ay,ak,au,aA,aB,jG]
 cases v.aF==0<;>cases v.fA==0<;>cases decide (v.fText=⟨#[]⟩)<;>cases (v.aW.length:Int)==0<;>rfl
theorem Ef(v:ah):Q0 v=some (jG v):=by
 simp only[Q0,aqY,dR,mW,mV,o8,o7,Mo.den,ay,ak,au,aA,aB,jG]
 cases v.aF==0<;>cases v.fA==0<;>cases decide (v.fText=⟨#[]⟩)<;>cases (v.aW.length:Int)==0<;>rfl
theorem len0{α:Type}{l:List α}(h:((l.length:Int)==0)=true):l=[]:=by
 have h:(l.length:Int)=0:=eq_of_beq h
 exact List.eq_nil_of_length_eq_zero (by omega)
theorem VU:∃G,FU=G+1:=⟨FU-1,by have:=gW;omega⟩
theorem nN{ε:Type}{T:Int→Option (Int⊕(ε⊕Unit))}(he:T 0=some (.inr (.inr ()))):bW T FU 0=some (.inr ()):=dU (fun _=>none) 0 (by omega) (fun k hk=>by omega) he
theorem vY(v:ah):Q20 v (ah.mk 0 0 ⟨#[]⟩ [] [])=some (jG v):=by
 unfold Q20
 obtain⟨G,hG⟩:=VU
 rw[hG]
 show Mo.den (aeV (AZ G) v (ah.mk 0 0 ⟨#[]⟩ [] []))=_
 unfold aeV YN YO QG QH jG
 simp only[Mo.den,ay,ak,au,aA,aB]
 have e1:(v.aF != (ah.mk 0 0 ⟨#[]⟩ [] []).aF)=!(v.aF==0):=rfl
 have e2:(v.fA != (ah.mk 0 0 ⟨#[]⟩ [] []).fA)=!(v.fA==0):=rfl
 have e3:((v.aW.length:Int) != ((ah.mk 0 0 ⟨#[]⟩ [] []).aW.length:Int))=!((v.aW.length:Int)==0):=rfl
 have e4:((v.aU.length:Int) != ((ah.mk 0 0 ⟨#[]⟩ [] []).aU.length:Int))=!((v.aU.length:Int)==0):=rfl
 have e5:decide (v.fText=(ah.mk 0 0 ⟨#[]⟩ [] []).fText)=decide (v.fText=⟨#[]⟩):=rfl
 rw[e1,e2,e3,e4,e5]
 cases h1:v.aF==0<;>cases h2:v.fA==0<;>cases h3:decide (v.fText=⟨#[]⟩)<;>cases h4:(v.aW.length:Int)==0<;>cases h5:(v.aU.length:Int)==0<;>first|rfl|skip
 have a1:=len0 h4
 have a2:=len0 h5
 have l1:aeT (AZ G) v (ah.mk 0 0 ⟨#[]⟩ [] []) 0=some (.inr ()):=nN (by simp only[F8,Mo.den,ay,ak,au,aA,aB,a1];rfl)
 have l2:aeU (AZ G) v (ah.mk 0 0 ⟨#[]⟩ [] []) 0=some (.inr ()):=nN (by simp only[F9,Mo.den,ay,ak,au,aA,aB,a2];rfl)
 simp only[Bool.not_true,cond_false,Option.bind_some,l1,l2];rfl
theorem GY{ε:Type}{f:Nat→Option ε}:∀n k,dF f k n=none↔∀i,k≤i→i<k+n→f i=none
 |0,k=>⟨fun _ i h1 h2=>by omega,fun _=>rfl⟩
 |n+1,k=>by
  have ih:=GY (f:=f) n (k+1)
  unfold dF
  cases hf:f k with
  |some e=>exact⟨fun h=>(by cases h),fun h=>(by rw[h k (Nat.le_refl _) (by omega)] at hf;cases hf)⟩
  |none=>
   show dF f (k+1) n=none↔_
   rw[ih]
   refine⟨fun h i h1 h2=>?_,fun h i h1 h2=>h i (by omega) (by omega)⟩
   rcases Nat.eq_or_lt_of_le h1 with rfl|h3
   ·exact hf
   ·exact h i h3 (by omega)
theorem alx{o:Option Unit}{b:Bool}(h:o=none↔b=false):o=hit b:=by
 cases b with
 |false=>exact h.2 rfl
 |true=>cases o with|none=>exact absurd (h.1 rfl) (by decide)|some u=>rfl
def again(l:List ByteArray)(x:ByteArray)(k:Nat):Option Unit:=dF (fun j=>match l[j]? with|some y=>hit (decide (y=x))|none=>none) 0 k
theorem aly(l:List ByteArray)(x:ByteArray)(k:Nat)(hk:k≤l.length):again l x k=hit (hasB x (l.take k).reverse):=by
 refine alx ?_
 unfold again hasB
 rw[GY,List.any_reverse,List.any_eq_false]
 constructor
 ·intro h y hy
  obtain⟨i,hi⟩:=List.mem_iff_getElem?.1 hy
  have hi2:i<k:=by have:=oM hi;rw[List.length_take] at this;omega
  have hy2:l[i]?=some y:=by rw[List.getElem?_take_of_lt hi2] at hi;exact hi
  have h:=h i (Nat.zero_le _) (by omega)
  simp only[hy2] at h
  intro e
  have e:=of_decide_eq_true e
  rw[decide_eq_true e.symm] at h;cases h
 ·intro h i _ hi
  have hy:=List.getElem?_eq_getElem (show i<l.length by omega)
  simp only[hy]
  have hm:l[i]∈l.take k:=List.mem_of_getElem? (i:=i) (by rw[List.getElem?_take_of_lt (show i<k by omega)];exact hy)
  have:=h _ hm
  rw[decide_eq_false (fun e=>this (decide_eq_true e.symm))];rfl
def LJ(l:List ByteArray)(k:Nat):Option Unit:=match l[k]? with|some x=>bif !nameB x then some () else again l x k|none=>none
def mG:List ByteArray→List ByteArray→Bool
 |_,[]=>true
 |seen,n::r=>(nameB n&&!hasB n seen)&&mG (n::seen) r
theorem VW(l:List ByteArray):∀(n k:Nat),k+n=l.length→dF (LJ l) k n=hit (!mG (l.take k).reverse (l.drop k))
 |0,k,h=>by rw[List.drop_eq_nil_of_le (by omega)];rfl
 |n+1,k,h=>by
  have hk:k<l.length:=by omega
  have hx:=List.getElem?_eq_getElem hk
  have hd:l.drop k=l[k]::l.drop (k+1):=List.drop_eq_getElem_cons hk
  have ht:(l.take (k+1)).reverse=l[k]::(l.take k).reverse:=by rw[List.take_succ_eq_append_getElem hk,List.reverse_append];rfl
  have ih:=VW l n (k+1) (by omega)
  rw[ht] at ih
  unfold dF
  rw[hd,show LJ l k=bif !nameB l[k] then some () else again l l[k] k by unfold LJ;rw[hx],aly l _ k (by omega)]
  show _=hit (!((nameB l[k]&&!hasB l[k] (l.take k).reverse)&&mG (l[k]::(l.take k).reverse) (l.drop (k+1))))
  cases nameB l[k] with
  |false=>rfl
  |true=>
   cases hasB l[k] (l.take k).reverse with
   |true=>rfl
   |false=>exact ih
theorem ag3(l:List ByteArray)(hl:l.length≤100000000):Q38 l=some (mG [] l):=by
 unfold Q38 apY
 simp only[Mo.den,ay,ak,au,aA,aB]
 try unfold ato
 rw[dU (LJ l) l.length (by omega) (fun k hk=>by
  have hx:=List.getElem?_eq_getElem hk
  have hin:F7 l (k:Int) 0=some (jB (again l l[k] k)):=by
   unfold F7 again
   refine dU _ k (by omega) (fun j hj=>?_) ?_
   ·have hy:=List.getElem?_eq_getElem (show j<l.length by omega)
    simp only[qL,Mo.den,ay,ak,au,aA,aB,iLt hj,gid hx,gid hy,cond_true,Option.bind_some,hy]
    cases decide (l[j]=l[k])<;>rfl
   ·simp only[qL,Mo.den,ay,ak,au,aA,aB,ltn,cond_false]
  simp only[DN,Mo.den,ay,ak,au,aA,aB,ltt hx,gid hx,cond_true,Option.bind_some,qN,hin,LJ,hx]
  cases nameB l[k] with
  |false=>rfl
  |true=>cases again l l[k] k<;>rfl) (by simp only[DN,Mo.den,ay,ak,au,aA,aB,ltn,cond_false])]
 rw[VW l l.length 0 (by omega)]
 simp only[List.take_zero,List.reverse_nil,List.drop_zero]
 cases mG [] l<;>rfl
theorem Ad(l:List ByteArray)(hl:l.length≤100000000):Q80 l=some (mG [] l):=by
 unfold Q80 ap0
 simp only[Mo.den,ay,ak,au,aA,aB]
 try unfold atA
 rw[dU (LJ l) l.length (by omega) (fun k hk=>by
  have hx:=List.getElem?_eq_getElem hk
  have hin:F7 l (k:Int) 0=some (jB (again l l[k] k)):=by
   unfold F7 again
   refine dU _ k (by omega) (fun j hj=>?_) ?_
   ·have hy:=List.getElem?_eq_getElem (show j<l.length by omega)
    simp only[qL,Mo.den,ay,ak,au,aA,aB,iLt hj,gid hx,gid hy,cond_true,Option.bind_some,hy]
    cases decide (l[j]=l[k])<;>rfl
   ·simp only[qL,Mo.den,ay,ak,au,aA,aB,ltn,cond_false]
  simp only[DT,Mo.den,ay,ak,au,aA,aB,ltt hx,gid hx,cond_true,Option.bind_some,qN,hin,LJ,hx]
  cases nameB l[k] with
  |false=>rfl
  |true=>cases again l l[k] k<;>rfl) (by simp only[DT,Mo.den,ay,ak,au,aA,aB,ltn,cond_false])]
 rw[VW l l.length 0 (by omega)]
 simp only[List.take_zero,List.reverse_nil,List.drop_zero]
 cases mG [] l<;>rfl
theorem LK(s:ByteArray):ant s=some (nameB s):=by
 simp only[ant,abb,Mo.den,ay,ak,au,aA,aB,kY,Option.bind_some,rF,List.length_cons,List.length_nil,List.all_cons,List.all_nil,Bool.and_true];rfl
theorem Gw{Lo:Int×List (ByteArray×Bool)→Option ((Int×List (ByteArray×Bool))⊕(Unit⊕Unit))}(l:List ByteArray)(hl:l.length≤100000000)
 (h:∀(k:Nat) (x:ByteArray) (m:List ByteArray),l[k]?=some x→m.length≤k→Lo ((k:Int),oN m)=some (bif nameB x&&!hasB x m then .inl (IntKind.wrap .i64 ((k:Int)+1),oN (x::m)) else .inr (.inl ())))
 (he:∀m,Lo ((l.length:Int),m)=some (.inr (.inr ()))):bW Lo FU (0,[])=some (bif mG [] l then .inr () else .inl ()):=by
 have key:Tot (bW Lo FU (0,[])) (fun r=>r=bif mG [] l then .inr () else .inl ()):=by
  refine T.qA l.length (by omega) (fun k s=>∃m:List ByteArray,m.length=k∧s=((k:Int),oN m)∧mG [] l=mG m (l.drop k)) _ ⟨[],rfl,rfl,rfl⟩ ?_ ?_
  ·rintro k s hk ⟨m,hm,rfl,hd⟩
   have hx:=List.getElem?_eq_getElem hk
   have hdr:l.drop k=l[k]::l.drop (k+1):=List.drop_eq_getElem_cons hk
   rw[hdr] at hd
   have hd:mG [] l=((nameB l[k]&&!hasB l[k] m)&&mG (l[k]::m) (l.drop (k+1))):=hd
   rw[h k l[k] m hx (by omega)]
   cases hb:nameB l[k]&&!hasB l[k] m with
   |false=>rw[hb] at hd;exact T.ret (show _=_ by rw[hd];rfl)
   |true=>rw[hb] at hd;exact T.ret ⟨l[k]::m,by simp[hm],by rw[inc k (by omega)],by rw[hd];rfl⟩
  ·rintro s ⟨m,hm,rfl,hd⟩
   rw[List.drop_length] at hd
   rw[he]
   exact T.ret (show _=_ by rw[hd];rfl)
 obtain⟨r,hr,rfl⟩:=key
 exact hr
theorem VX(l:List ByteArray)(hl:l.length≤100000000):Q68 l=some (mG [] l):=by
 unfold Q68 aiX
 simp only[Mo.den,ay,ak,au,aA,aB]
 try unfold arD
 rw[Gw l hl (fun k x m hx hm=>by
  have hlt:=oM hx
  have hg:(oN m).length<maxLen:=by rw[oN,List.length_map];unfold maxLen;omega
  unfold xg
  simp only[JU,Mo.den,ay,ak,au,aA,aB,ltt hx,gid hx,cond_true,Option.bind_some,LK,uy,if_pos hg]
  cases nameB x<;>cases hasB x m<;>rfl) (fun m=>by unfold xg;simp only[Mo.den,ay,ak,au,aA,aB,ltn,cond_false])]
 cases mG [] l<;>rfl
end Go.Proofs.YtflpefkohpjjpaaGreatDoor
set_option linter.unusedSimpArgs false
set_option linter.unusedVariables false
namespace Go.Proofs.YtflpefkohpjjpaaGreatDoor
open Go.RowKit
theorem dJ{α:Type}(b:Bool)(x y:α):(bif b then some x else some y)=some (bif b then x else y):=by cases b<;>rfl
theorem ge1(n:Nat):decide ((1:Int)≤(n:Int))=!((n:Int)==0):=by
 cases n with
 |zero=>rfl
 |succ n=>rw[decide_eq_true (by omega),show(((n+1:Nat):Int)==0)=false by rw[beq_eq_false_iff_ne];omega];rfl
theorem gt0(n:Nat):decide ((0:Int)<(n:Int))=!((n:Int)==0):=by
 rw[←ge1];rw[decide_eq_decide];omega
noncomputable def LM(op:Int)(b0 b1 b2 b3 bm pv p0 nv dn vv mz ne n0 en:Bool):Int:=
 bif decide (op<1)||decide (37<op) then 11 else
 let k:=if op=1∨op=2∨op=3 then b0 else if op=18∨op=22∨op=23∨op=24∨op=26∨op=30∨op=31∨op=36 then b1 else if op=19∨op=25 then b3 else if op=4∨op=6∨op=16∨op=17∨op=21∨op=29∨op=37∨op=35 then true else if op=34 then !b0&&bm else b2
 let up:=decide (op=2)||decide (op=3)
 let un:=decide (op=3)||decide (op=32)||decide (op=33)
 bif !k then 11 else bif up&&!pv&&(decide (op=2)||!p0) then 10 else bif (un&&!nv)||(decide (op=34)&&!dn) then 9 else bif decide (op=1)&&!vv then 8
 else bif (!up&&!p0)||(!un&&!ne)||(!decide (op=34)&&!n0)||(!decide (op=1)&&!mz)||en then 4 else 0
theorem ap7(op:Int)(h1:1≤op)(h2:op≤37):op=1∨op=2∨op=3∨op=4∨op=5∨op=6∨op=7∨op=8∨op=9∨op=10∨op=11∨op=12∨op=13∨op=14∨op=15∨op=16∨op=17∨op=18∨op=19∨op=20∨op=21∨op=22∨op=23∨op=24∨op=25∨op=26∨op=27∨op=28∨op=29∨op=30∨op=31∨op=32∨op=33∨op=34∨op=35∨op=36∨op=37:=by omega
noncomputable def Ae(e:aP):Int:=LM e.fOp ((e.bC.length:Int)==0) ((e.bC.length:Int)==1) ((e.bC.length:Int)==2) ((e.bC.length:Int)==3) ((e.bC.length:Int)==(e.eP.length:Int)) (rF e.cO) ((e.cO.length:Int)==0) (nameB e.fName) (mG [] e.eP) (oq e.fArg) (jG e.fArg) (decide (e.fName=⟨#[]⟩)) ((e.eP.length:Int)==0) (e.fN != 0)
theorem VY(e:aP)(hb:aT e.lf1≤100000000):Q18 e=some (Ae e):=by
 have hp:=jP e
 have hn:=iy e.eP
 unfold Ae
 simp only[Q18,aiY,PX,PW,PV,PU,PS,PO,PN,PL,PK,PI,PG,PE,XT,XR,Mo.den,ay,ak,au,aA,aB,Q75,aiV,Pz,Py,Px,CW,CV,Mo.den,ay,ak,au,aA,aB,anq,aa9,PD,Mo.den,ay,ak,au,aA,aB,kY,LK,VX e.eP (by omega),l9 e.fArg (by omega),ag2,Option.bind_some,dJ,gt0,ge1,bne]
 clear hp hn hb
 generalize e.fOp=op
 generalize ((e.bC.length:Int)==0)=b0
 generalize ((e.bC.length:Int)==1)=b1
 generalize ((e.bC.length:Int)==2)=b2
 generalize ((e.bC.length:Int)==3)=b3
 generalize ((e.bC.length:Int)==(e.eP.length:Int))=bm
 generalize rF e.cO=pv
 generalize ((e.cO.length:Int)==0)=p0
 generalize nameB e.fName=nv
 generalize mG [] e.eP=dn
 generalize oq e.fArg=vv
 generalize jG e.fArg=mz
 generalize decide (e.fName=⟨#[]⟩)=ne
 generalize ((e.eP.length:Int)==0)=n0
 generalize (e.fN==0)=en
 clear e
 by_cases h1:op<1
 ·unfold LM;rw[decide_eq_true h1];rfl
 by_cases h2:37<op
 ·unfold LM;rw[decide_eq_true h2,decide_eq_false h1];rfl
 rcases ap7 op (by omega) (by omega) with rfl|rfl|rfl|rfl|rfl|rfl|rfl|rfl|rfl|rfl|rfl|rfl|rfl|rfl|rfl|rfl|rfl|rfl|rfl|rfl|rfl|rfl|rfl|rfl|rfl|rfl|rfl|rfl|rfl|rfl|rfl|rfl|rfl|rfl|rfl|rfl|rfl
 all_goals simp(decide:=true) only[LM,Int.reduceBEq,Int.reduceLT,Int.reduceLE,Int.reduceNeg,Int.reduceEq,decide_true,decide_false,cond_true,cond_false,if_true,if_false,Bool.not_true,Bool.not_false,Bool.false_or,Bool.true_or,Bool.or_false,Bool.or_true,Bool.and_true,Bool.true_and,Bool.false_and,Bool.and_false]
 all_goals first|rfl|skip
 all_goals first|clear b0|(cases b0<;>first|rfl|skip)
 all_goals first|clear b1|(cases b1<;>first|rfl|skip)
 all_goals first|clear b2|(cases b2<;>first|rfl|skip)
 all_goals first|clear b3|(cases b3<;>first|rfl|skip)
 all_goals first|clear bm|(cases bm<;>first|rfl|skip)
 all_goals first|clear pv|(cases pv<;>first|rfl|skip)
 all_goals first|clear p0|(cases p0<;>first|rfl|skip)
 all_goals first|clear nv|(cases nv<;>first|rfl|skip)
 all_goals first|clear dn|(cases dn<;>first|rfl|skip)
 all_goals first|clear vv|(cases vv<;>first|rfl|skip)
 all_goals first|clear ne|(cases ne<;>first|rfl|skip)
 all_goals first|clear n0|(cases n0<;>first|rfl|skip)
 all_goals first|clear mz|(cases mz<;>first|rfl|skip)
 all_goals first|clear en|(cases en<;>first|rfl|skip)
theorem Nl(e:aP)(hb:aT e.lf1≤100000000):Q8 e=some (Ae e):=by
 have hp:=jP e
 have hn:=iy e.eP
 unfold Ae
 simp only[Q8,auL,Y2,Y1,Y0,YZ,YX,YW,YV,YU,YT,YS,YR,YQ,YP,aeX,aeW,Mo.den,ay,ak,au,aA,aB,auK,ala,Lc,La,CW,CV,Mo.den,ay,ak,au,aA,aB,D7,qN,ag3 e.eP (by omega),lT e.fArg (by omega),vY,Option.bind_some,dJ,gt0,ge1,bne]
 clear hp hn hb
 generalize e.fOp=op
 generalize (e.bC.length:Int)=kn
 generalize (e.eP.length:Int)=nn
 generalize rF e.cO=pv
 generalize ((e.cO.length:Int)==0)=p0
 generalize nameB e.fName=nv
 generalize mG [] e.eP=dn
 generalize oq e.fArg=vv
 generalize jG e.fArg=mz
 generalize decide (e.fName=⟨#[]⟩)=ne
 generalize (e.fN==0)=en
 clear e
 by_cases h1:op<1
 ·unfold LM;rw[decide_eq_true h1];rfl
 by_cases h2:37<op
 ·unfold LM;rw[decide_eq_true h2,decide_eq_false h1];rfl
 rcases ap7 op (by omega) (by omega) with rfl|rfl|rfl|rfl|rfl|rfl|rfl|rfl|rfl|rfl|rfl|rfl|rfl|rfl|rfl|rfl|rfl|rfl|rfl|rfl|rfl|rfl|rfl|rfl|rfl|rfl|rfl|rfl|rfl|rfl|rfl|rfl|rfl|rfl|rfl|rfl|rfl
 all_goals simp(decide:=true) only[LM,Int.reduceBEq,Int.reduceLT,Int.reduceLE,Int.reduceNeg,Int.reduceEq,decide_true,decide_false,cond_true,cond_false,if_true,if_false,Bool.not_true,Bool.not_false,Bool.false_or,Bool.true_or,Bool.or_false,Bool.or_true,Bool.and_true,Bool.true_and,Bool.false_and,Bool.and_false]
 all_goals first|rfl|skip
 all_goals generalize (kn==0)=b0
 all_goals generalize (kn==1)=b1
 all_goals generalize (kn==2)=b2
 all_goals generalize (kn==3)=b3
 all_goals generalize (kn==nn)=bm
 all_goals generalize (nn==0)=n0
 all_goals first|clear b0|(cases b0<;>first|rfl|skip)
 all_goals first|clear b1|(cases b1<;>first|rfl|skip)
 all_goals first|clear b2|(cases b2<;>first|rfl|skip)
 all_goals first|clear b3|(cases b3<;>first|rfl|skip)
 all_goals first|clear bm|(cases bm<;>first|rfl|skip)
 all_goals first|clear pv|(cases pv<;>first|rfl|skip)
 all_goals first|clear p0|(cases p0<;>first|rfl|skip)
 all_goals first|clear nv|(cases nv<;>first|rfl|skip)
 all_goals first|clear dn|(cases dn<;>first|rfl|skip)
 all_goals first|clear vv|(cases vv<;>first|rfl|skip)
 all_goals first|clear ne|(cases ne<;>first|rfl|skip)
 all_goals first|clear n0|(cases n0<;>first|rfl|skip)
 all_goals first|clear mz|(cases mz<;>first|rfl|skip)
 all_goals first|clear en|(cases en<;>first|rfl|skip)
end Go.Proofs.YtflpefkohpjjpaaGreatDoor
