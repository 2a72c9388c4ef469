/- Printed by dec.py. -/
import Derived.Test.YtflpefkohpjjpaaGreatDoorQNNw4
set_option linter.unusedSimpArgs false
set_option linter.unusedVariables false
namespace Go.Proofs.YtflpefkohpjjpaaGreatDoor
open Go.RowKit
set_option maxRecDepth 20000
set_option maxHeartbeats 4000000
noncomputable section
def XW(p_s:ByteArray)(p_b0:Y5):Mo (Y5):=
 .cH [0] (eF (p_s.size:Int) p_b0) fun r0 _=>
 .grd (r0.fS.size+p_s.size≤9223372036854775807) fun h0=>
 .say [] (ok1 h0)<|
 .rt [] 1 (Y5.mk (r0.fS++p_s) r0.Y7 r0.Y8)
def Q28(p_s:ByteArray)(p_b0:Y5):Option (Y5):=Mo.den (XW p_s p_b0)
theorem lS(p_s:ByteArray)(p_b0:Y5):FH (Q28 p_s p_b0) 84 [.ptr 0 0,.lf (.str p_s)] [bW p_b0] (fun _=>.tup []) (fun r=>[bW r]):=dA Tryz.func84
abbrev QK(m:aj→Int→Option (Int)):Prop:=∀p_v p_most,FV (m p_v p_most) 259 [.dat (aj.lf1 p_v),.i_ p_most] .i_
structure Y1 where
 m1:(p_v:aj)→(p_most:Int)→Option (Int)
 ok1:QK m1
abbrev QL(m:aj→Int→Option (Int)):Prop:=∀p_v p_most,FV (m p_v p_most) 260 [.dat (aj.lf1 p_v),.i_ p_most] .i_
structure Y2 where
 m1:(p_v:aj)→(p_most:Int)→Option (Int)
 ok1:QL m1
abbrev QM(m:aj→Bool→Option (Bool)):Prop:=∀p_v p_names,FV (m p_v p_names) 191 [.dat (aj.lf1 p_v),.b_ p_names] .b_
abbrev QN(m:aj→Bool→Option (Bool)):Prop:=∀p_v p_names,FV (m p_v p_names) 262 [.dat (aj.lf1 p_v),.b_ p_names] .b_
structure Y3 where
 m1:(p_v:aj)→(p_names:Bool)→Option (Bool)
 ok1:QM m1
 m2:(p_v:aj)→(p_names:Bool)→Option (Bool)
 ok2:QN m2
abbrev QO(m:aj→Option (ByteArray)):Prop:=∀p_v,FV (m p_v) 280 [.dat (aj.lf1 p_v)] (fun r=>.lf (.str r))
structure Y4 where
 m1:(p_v:aj)→Option (ByteArray)
 ok1:QO m1
abbrev xI(m:aj→Y5→Option (Y5)):Prop:=∀p_v p_b0,FH (m p_v p_b0) 140 [.ptr 0 0,.dat (aj.lf1 p_v)] [bW p_b0] (fun _=>.tup []) (fun r=>[bW r])
abbrev xJ(m:(List aj)→Y5→Option (Y5)):Prop:=∀p_l p_b0,FH (m p_l p_b0) 217 [.ptr 0 0,.lf (.rows 5 (p_l.map aj.lf))] [bW p_b0] (fun _=>.tup []) (fun r=>[bW r])
structure Cj where
 m1:(p_v:aj)→(p_b0:Y5)→Option (Y5)
 ok1:xI m1
 m2:(p_l:List aj)→(p_b0:Y5)→Option (Y5)
 ok2:xJ m2
def Nj(R_:Cj)(p_v:aj):(Int×Y5)→Mo ((Int×Y5)⊕(Y5)):=fun(v0,s8082)=>
 .nu p_v.bF aA.lf<|
 .iB (decide ((v0:Int)<(p_v.bF.length:Int))) (.gx aA.dw p_v.bF v0 fun x0 _=>
 .cH [0] (lS x0.fName s8082) fun r0 _=>
 .gx aA.dw p_v.bF v0 fun x1 _=>
 .cH [0] (R_.ok1 x1.fValue r0) fun r1 _=>
 .rt [0,3,4] 2 (.inl (IntKind.wrap .i64 (v0+1),r1)))<|
 .ret ⟨[.kill 1],[],[],2⟩ (.inr (s8082))
def SY(R_:Cj)(p_v:aj)(p_b0:Y5):Mo (Y5):=
 .iB (p_b0.Y8) (.cH [0] (eF p_v.aB p_b0) fun r0 _=>
 .cH [0] (eF p_v.dY r0) fun r1 _=>
 .cH [0] (lS p_v.fText r1) fun r2 _=>
 .ask (R_.m2 p_v.dM r2) fun r3 h0=>
 .say [.gU [0] (.tup []) [bW r3],.num p_v.bF.length] (okc (R_.ok2 _ _ _ h0) (ok1 (ln_ p_v.bF aA.lf)))<|
 .cH [0] (eF (p_v.bF.length:Int) r3) fun r4 _=>
 .l1 Tryz.f140 1 [1,0,1,0,1,1,1,1,1,0,1,0] 0 (.exit 0) (fun(v0,s8082)=>⟨[(0,.ptr 0 0),(3,.ptr 1 0),(4,.i_ v0)],[bW s8082,bV p_v]⟩) (fun r_=>⟨[],[bW r_,.dead]⟩) (Nj R_ p_v) (0,r4) fun r5=>
 .rt [] 1 (r5))<|
 .stop
theorem QS(R_:Cj):xI fun p_v p_b0=>Mo.den (SY R_ p_v p_b0):=fun _ _=>dA Tryz.func140
def Nk(R_:Cj)(p_l:List aj):(Int×Y5)→Mo ((Int×Y5)⊕(Y5)):=fun(v0,s9654)=>
 .nu p_l aj.lf<|
 .iB (decide ((v0:Int)<(p_l.length:Int))) (.stop)<|
 .rt [] 1 (.inr (s9654))
def S9(R_:Cj)(p_l:List aj)(p_b0:Y5):Mo (Y5):=
 .nu p_l aj.lf<|
 .cH [0] (eF (p_l.length:Int) p_b0) fun r0 _=>
 .l1 Tryz.f217 1 [1,1,0] 0 (.exit 0) (fun(v0,s9654)=>⟨[(0,.ptr 0 0),(1,.lf (.rows 5 (p_l.map aj.lf))),(4,.i_ v0)],[bW s9654]⟩) (fun r_=>⟨[],[bW r_]⟩) (Nk R_ p_l) (0,r0) fun r1=>
 .rt [] 1 (r1)
theorem QT(R_:Cj):xJ fun p_l p_b0=>Mo.den (S9 R_ p_l p_b0):=fun _ _=>dA Tryz.func217
def lT:Nat→Cj
 |0=>{ m1:=fun p_v p_b0=>none,ok1:=fun _ _ _ h=>(by cases h),m2:=fun p_l p_b0=>none,ok2:=fun _ _ _ h=>(by cases h) }
 |n_+1=>{ m1:=fun p_v p_b0=>Mo.den (SY (lT n_) p_v p_b0),ok1:=QS (lT n_),m2:=fun p_l p_b0=>Mo.den (S9 (lT n_) p_l p_b0),ok2:=QT (lT n_) }
def Q17(p_v:aj)(p_b0:Y5):Option (Y5):=(lT FU).m1 p_v p_b0
theorem nR:xI Q17:=(lT FU).ok1
def Q31(p_l:List aj)(p_b0:Y5):Option (Y5):=(lT FU).m2 p_l p_b0
theorem Nl:xJ Q31:=(lT FU).ok2
def Np(p_l:List ByteArray):(Int×Y5)→Mo ((Int×Y5)⊕(Y5)):=fun(v0,s9722)=>
 .nu p_l lfS<|
 .iB (decide ((v0:Int)<(p_l.length:Int))) (.stop)<|
 .rt [] 1 (.inr (s9722))
def XY(p_l:List ByteArray)(p_b0:Y5):Mo (Y5):=
 .nu p_l lfS<|
 .cH [0] (eF (p_l.length:Int) p_b0) fun r0 _=>
 .l1 Tryz.f220 1 [1,1,0] 0 (.exit 0) (fun(v0,s9722)=>⟨[(0,.ptr 0 0),(1,.lf (.rows 1 (p_l.map lfS))),(4,.i_ v0)],[bW s9722]⟩) (fun r_=>⟨[],[bW r_]⟩) (Np p_l) (0,r0) fun r1=>
 .rt [] 1 (r1)
def Q36(p_l:List ByteArray)(p_b0:Y5):Option (Y5):=Mo.den (XY p_l p_b0)
theorem xK(p_l:List ByteArray)(p_b0:Y5):FH (Q36 p_l p_b0) 220 [.ptr 0 0,.lf (.rows 1 (p_l.map lfS))] [bW p_b0] (fun _=>.tup []) (fun r=>[bW r]):=dA Tryz.func220
def XZ(p_b:Bool)(p_b0:Y5):Mo (Y5):=
 .iB (p_b) (.stop)<|
 .grd (p_b0.fS.size+(⟨#[0]⟩:ByteArray).size≤9223372036854775807) fun h0=>
 .say [] (ok1 h0)<|
 .rt [] 1 (Y5.mk (p_b0.fS++⟨#[0]⟩) p_b0.Y7 p_b0.Y8)
def Q25(p_b:Bool)(p_b0:Y5):Option (Y5):=Mo.den (XZ p_b p_b0)
theorem lU(p_b:Bool)(p_b0:Y5):FH (Q25 p_b p_b0) 143 [.ptr 0 0,.b_ p_b] [bW p_b0] (fun _=>.tup []) (fun r=>[bW r]):=dA Tryz.func143
def Nq(p_s:fF):(Int×Y5)→Mo ((Int×Y5)⊕(Y5)):=fun(v0,s9887)=>
 .nu p_s.fC bU.lf<|
 .iB (decide ((v0:Int)<(p_s.fC.length:Int))) (.stop)<|
 .rt [0,3] 2 (.inr (s9887))
def X0(p_s:fF)(p_b0:Y5):Mo (Y5):=
 .ask (Q1 p_s.aB p_b0) fun r0 h0=>
 .say [.gU [0] (.tup []) [bW r0],.num p_s.fC.length] (okc (eF _ _ _ h0) (ok1 (ln_ p_s.fC bU.lf)))<|
 .cH [0] (eF (p_s.fC.length:Int) r0) fun r1 _=>
 .l1 Tryz.f281 1 [1,1,1,0,1,0] 0 (.exit 0) (fun(v0,s9887)=>⟨[(0,.ptr 0 0),(3,.ptr 1 0),(4,.i_ v0)],[bW s9887,RQ p_s]⟩) (fun r_=>⟨[(0,.ptr 0 0),(3,.ptr 1 0)],[bW r_,RQ p_s]⟩) (Nq p_s) (0,r1) fun r2=>
 .cH [0] (eF p_s.fR r2) fun r3 _=>
 .ret ⟨[.kill 1],[],[],1⟩ (r3)
def Q66(p_s:fF)(p_b0:Y5):Option (Y5):=Mo.den (X0 p_s p_b0)
theorem VQ(p_s:fF)(p_b0:Y5):FH (Q66 p_s p_b0) 281 [.ptr 0 0,.dat (fF.lf1 p_s)] [bW p_b0] (fun _=>.tup []) (fun r=>[bW r]):=dA Tryz.func281
abbrev xM(m:aJ→Y5→Option (Y5)):Prop:=∀p_e p_b0,FH (m p_e p_b0) 282 [.ptr 0 0,.dat (aJ.lf1 p_e)] [bW p_b0] (fun _=>.tup []) (fun r=>[bW r])
structure QU where
 m1:(p_e:aJ)→(p_b0:Y5)→Option (Y5)
 ok1:xM m1
def Nr(R_:QU)(p_e:aJ):(Int×Y5)→Mo ((Int×Y5)⊕(Y5)):=fun(v0,s9949)=>
 .nu p_e.dO aJ.lf<|
 .iB (decide ((v0:Int)<(p_e.dO.length:Int))) (.stop)<|
 .ret ⟨[.kill 1],[],[],2⟩ (.inr (s9949))
def Tc(R_:QU)(p_e:aJ)(p_b0:Y5):Mo (Y5):=
 .cH [0] (eF p_e.fOp p_b0) fun r0 _=>
 .cH [0] (xK p_e.dW r0) fun r1 _=>
 .cH [0] (lS p_e.fName r1) fun r2 _=>
 .cH [0] (xK p_e.gy r2) fun r3 _=>
 .cH [0] (nR p_e.fArg r3) fun r4 _=>
 .ask (Q1 p_e.fN r4) fun r5 h0=>
 .say [.gU [0] (.tup []) [bW r5],.num p_e.dO.length] (okc (eF _ _ _ h0) (ok1 (ln_ p_e.dO aJ.lf)))<|
 .cH [0] (eF (p_e.dO.length:Int) r5) fun r6 _=>
 .l1 Tryz.f282 1 [1,1,1,1,1,1,1,1,1,0] 0 (.exit 0) (fun(v0,s9949)=>⟨[(0,.ptr 0 0),(3,.ptr 1 0),(4,.i_ v0)],[bW s9949,tu p_e]⟩) (fun r_=>⟨[],[bW r_,.dead]⟩) (Nr R_ p_e) (0,r6) fun r7=>
 .rt [] 1 (r7)
theorem QV(R_:QU):xM fun p_e p_b0=>Mo.den (Tc R_ p_e p_b0):=fun _ _=>dA Tryz.func282
def xO:Nat→QU
 |0=>{ m1:=fun p_e p_b0=>none,ok1:=fun _ _ _ h=>(by cases h) }
 |n_+1=>{ m1:=fun p_e p_b0=>Mo.den (Tc (xO n_) p_e p_b0),ok1:=QV (xO n_) }
def Q35(p_e:aJ)(p_b0:Y5):Option (Y5):=(xO FU).m1 p_e p_b0
theorem VT:xM Q35:=(xO FU).ok1
abbrev xP(m:aH→Y5→Option (Y5)):Prop:=∀p_p p_b0,FH (m p_p p_b0) 221 [.ptr 0 0,.dat (aH.lf1 p_p)] [bW p_b0] (fun _=>.tup []) (fun r=>[bW r])
structure QW where
 m1:(p_p:aH)→(p_b0:Y5)→Option (Y5)
 ok1:xP m1
def Ns(R_:QW)(p_p:aH):(Int×Y5)→Mo ((Int×Y5)⊕(Y5)):=fun(v0,s9982)=>
 .nu p_p.dO aH.lf<|
 .iB (decide ((v0:Int)<(p_p.dO.length:Int))) (.stop)<|
 .ret ⟨[.kill 1],[],[],2⟩ (.inr (s9982))
def Td(R_:QW)(p_p:aH)(p_b0:Y5):Mo (Y5):=
 .cH [0] (eF p_p.fOp p_b0) fun r0 _=>
 .cH [0] (xK p_p.dW r0) fun r1 _=>
 .cH [0] (nR p_p.fArg r1) fun r2 _=>
 .cH [0] (Nl p_p.fArgs r2) fun r3 _=>
 .cH [0] (eF p_p.fN r3) fun r4 _=>
 .cH [0] (eF p_p.fM r4) fun r5 _=>
 .cH [0] (VQ p_p.dJ r5) fun r6 _=>
 .ask (Q35 p_p.fExpr r6) fun r7 h0=>
 .say [.gU [0] (.tup []) [bW r7],.num p_p.dO.length] (okc (VT _ _ _ h0) (ok1 (ln_ p_p.dO aH.lf)))<|
 .cH [0] (eF (p_p.dO.length:Int) r7) fun r8 _=>
 .l1 Tryz.f221 1 [1,1,1,1,1,1,1,1,1,1,1,0] 0 (.exit 0) (fun(v0,s9982)=>⟨[(0,.ptr 0 0),(3,.ptr 1 0),(4,.i_ v0)],[bW s9982,lN p_p]⟩) (fun r_=>⟨[],[bW r_,.dead]⟩) (Ns R_ p_p) (0,r8) fun r9=>
 .rt [] 1 (r9)
theorem QX(R_:QW):xP fun p_p p_b0=>Mo.den (Td R_ p_p p_b0):=fun _ _=>dA Tryz.func221
def xQ:Nat→QW
 |0=>{ m1:=fun p_p p_b0=>none,ok1:=fun _ _ _ h=>(by cases h) }
 |n_+1=>{ m1:=fun p_p p_b0=>Mo.den (Td (xQ n_) p_p p_b0),ok1:=QX (xQ n_) }
def Q42(p_p:aH)(p_b0:Y5):Option (Y5):=(xQ FU).m1 p_p p_b0
theorem VU:xP Q42:=(xQ FU).ok1
def Nu(p_x:aK):(Int×Y5)→Mo ((Int×Y5)⊕(Y5)):=fun(v0,s9780)=>
 .nu p_x.iT bG.lf<|
 .iB (decide ((v0:Int)<(p_x.iT.length:Int))) (.stop)<|
 .rt [0,3] 2 (.inr (s9780))
def X3(p_x:aK)(p_b0:Y5):Mo (Y5):=
 .cH [0] (lS p_x.fName p_b0) fun r0 _=>
 .ask (Q1 p_x.aB r0) fun r1 h0=>
 .say [.gU [0] (.tup []) [bW r1],.num p_x.iT.length] (okc (eF _ _ _ h0) (ok1 (ln_ p_x.iT bG.lf)))<|
 .cH [0] (eF (p_x.iT.length:Int) r1) fun r2 _=>
 .l1 Tryz.f142 1 [1,1,1,1,0,1,0] 0 (.exit 0) (fun(v0,s9780)=>⟨[(0,.ptr 0 0),(3,.ptr 1 0),(4,.i_ v0)],[bW s9780,qG p_x]⟩) (fun r_=>⟨[(0,.ptr 0 0),(3,.ptr 1 0)],[bW r_,qG p_x]⟩) (Nu p_x) (0,r2) fun r3=>
 .cH [0] (lU p_x.dP r3) fun r4 _=>
 .cH [0] (lU p_x.iy r4) fun r5 _=>
 .cH [0] (lU p_x.fO r5) fun r6 _=>
 .cH [0] (VU p_x.aP r6) fun r7 _=>
 .ret ⟨[.kill 1],[],[],1⟩ (r7)
def Q67(p_x:aK)(p_b0:Y5):Option (Y5):=Mo.den (X3 p_x p_b0)
theorem VW(p_x:aK)(p_b0:Y5):FH (Q67 p_x p_b0) 142 [.ptr 0 0,.dat (aK.lf1 p_x)] [bW p_b0] (fun _=>.tup []) (fun r=>[bW r]):=dA Tryz.func142
abbrev xR(m:ay→Y5→Option (Y5)):Prop:=∀p_s p_b0,FH (m p_s p_b0) 219 [.ptr 0 0,.dat (ay.lf1 p_s)] [bW p_b0] (fun _=>.tup []) (fun r=>[bW r])
structure Nv where
 m1:(p_s:ay)→(p_b0:Y5)→Option (Y5)
 ok1:xR m1
def Nw(R_:Nv)(p_s:ay):(Int×Y5)→Mo ((Int×Y5)⊕(Y5)):=fun(v0,s10119)=>
 .nu p_s.gY bn.lf<|
 .iB (decide ((v0:Int)<(p_s.gY.length:Int))) (.stop)<|
 .rt [0,3] 2 (.inr (s10119))
def Ny(R_:Nv)(p_s:ay):(Int×Y5)→Mo ((Int×Y5)⊕(Y5)):=fun(v0,s10170)=>
 .nu p_s.gZ ay.lf<|
 .iB (decide ((v0:Int)<(p_s.gZ.length:Int))) (.stop)<|
 .rt [0,3] 2 (.inr (s10170))
def Tf(R_:Nv)(p_s:ay)(p_b0:Y5):Mo (Y5):=
 .cH [0] (eF p_s.jo p_b0) fun r0 _=>
 .cH [0] (lU p_s.iF r0) fun r1 _=>
 .cH [0] (nR p_s.iW r1) fun r2 _=>
 .cH [0] (lU p_s.iH r2) fun r3 _=>
 .cH [0] (nR p_s.iY r3) fun r4 _=>
 .cH [0] (Nl p_s.kF r4) fun r5 _=>
 .cH [0] (eF p_s.iI r5) fun r6 _=>
 .cH [0] (eF p_s.iJ r6) fun r7 _=>
 .ask (Q36 p_s.eP r7) fun r8 h0=>
 .say [.gU [0] (.tup []) [bW r8],.num p_s.gY.length] (okc (xK _ _ _ h0) (ok1 (ln_ p_s.gY bn.lf)))<|
 .cH [0] (eF (p_s.gY.length:Int) r8) fun r9 _=>
 .l1 Tryz.f219 1 [1,1,1,1,1,1,1,1,1,1,1,0,1,0] 0 (.exit 0) (fun(v0,s10119)=>⟨[(0,.ptr 0 0),(3,.ptr 1 0),(4,.i_ v0)],[bW s10119,jB p_s]⟩) (fun r_=>⟨[(0,.ptr 0 0),(3,.ptr 1 0)],[bW r_,jB p_s]⟩) (Nw R_ p_s) (0,r9) fun r10=>
 .ask (Q25 p_s.iK r10) fun r11 h1=>
 .say [.gU [0] (.tup []) [bW r11],.num p_s.gZ.length] (okc (lU _ _ _ h1) (ok1 (ln_ p_s.gZ ay.lf)))<|
 .cH [0] (eF (p_s.gZ.length:Int) r11) fun r12 _=>
 .l1 Tryz.f219 1 [1,1,1,1,1,1,1,1,1,1,1,1,1,1,0,1,0] 0 (.exit 2) (fun(v1,s10170)=>⟨[(0,.ptr 0 0),(3,.ptr 1 0),(5,.i_ v1)],[bW s10170,jB p_s]⟩) (fun r_=>⟨[(0,.ptr 0 0),(3,.ptr 1 0)],[bW r_,jB p_s]⟩) (Ny R_ p_s) (0,r12) fun r13=>
 .cH [0] (lU p_s.dP r13) fun r14 _=>
 .ret ⟨[.kill 1],[],[],1⟩ (r14)
theorem QY(R_:Nv):xR fun p_s p_b0=>Mo.den (Tf R_ p_s p_b0):=fun _ _=>dA Tryz.func219
def xU:Nat→Nv
 |0=>{ m1:=fun p_s p_b0=>none,ok1:=fun _ _ _ h=>(by cases h) }
 |n_+1=>{ m1:=fun p_s p_b0=>Mo.den (Tf (xU n_) p_s p_b0),ok1:=QY (xU n_) }
def Q24(p_s:ay)(p_b0:Y5):Option (Y5):=(xU FU).m1 p_s p_b0
theorem VX:xR Q24:=(xU FU).ok1
def Nz(p_d:cu):(Int×Y5)→Mo ((Int×Y5)⊕(Y5)):=fun(v0,s10020)=>
 .nu p_d.eU aK.lf<|
 .iB (decide ((v0:Int)<(p_d.eU.length:Int))) (.stop)<|
 .rt [0,3] 2 (.inr (s10020))
def X4(p_d:cu)(p_b0:Y5):Mo (Y5):=
 .ask (Q28 p_d.fName p_b0) fun r0 h0=>
 .say [.gU [0] (.tup []) [bW r0],.num p_d.eU.length] (okc (lS _ _ _ h0) (ok1 (ln_ p_d.eU aK.lf)))<|
 .cH [0] (eF (p_d.eU.length:Int) r0) fun r1 _=>
 .l1 Tryz.f141 1 [1,1,1,0,1,0] 0 (.exit 0) (fun(v0,s10020)=>⟨[(0,.ptr 0 0),(3,.ptr 1 0),(4,.i_ v0)],[bW s10020,vC p_d]⟩) (fun r_=>⟨[(0,.ptr 0 0),(3,.ptr 1 0)],[bW r_,vC p_d]⟩) (Nz p_d) (0,r1) fun r2=>
 .cH [0] (VX p_d.aI r2) fun r3 _=>
 .cH [0] (eF p_d.kR r3) fun r4 _=>
 .cH [0] (eF p_d.jE r4) fun r5 _=>
 .ret ⟨[.kill 1],[],[],1⟩ (r5)
def Q68(p_d:cu)(p_b0:Y5):Option (Y5):=Mo.den (X4 p_d p_b0)
theorem VY(p_d:cu)(p_b0:Y5):FH (Q68 p_d p_b0) 141 [.ptr 0 0,.dat (cu.lf1 p_d)] [bW p_b0] (fun _=>.tup []) (fun r=>[bW r]):=dA Tryz.func141
abbrev xW(m:au→Y5→Option (Y5)):Prop:=∀p_x p_b0,FH (m p_x p_b0) 85 [.ptr 0 0,.dat (au.lf1 p_x)] [bW p_b0] (fun _=>.tup []) (fun r=>[bW r])
structure NC where
 m1:(p_x:au)→(p_b0:Y5)→Option (Y5)
 ok1:xW m1
def ND(R_:NC)(p_x:au):(Int×Y5)→Mo ((Int×Y5)⊕(Y5)):=fun(v0,s10241)=>
 .nu p_x.dD au.lf<|
 .iB (decide ((v0:Int)<(p_x.dD.length:Int))) (.stop)<|
 .rt [0,3] 2 (.inr (s10241))
def NG(R_:NC)(p_x:au):(Int×Y5)→Mo ((Int×Y5)⊕(Y5)):=fun(v0,s10284)=>
 .nu p_x.dN lfI<|
 .iB (decide ((v0:Int)<(p_x.dN.length:Int))) (.stop)<|
 .rt [0,3] 2 (.inr (s10284))
def Ti(R_:NC)(p_x:au)(p_b0:Y5):Mo (Y5):=
 .cH [0] (eF p_x.aB p_b0) fun r0 _=>
 .cH [0] (lS p_x.fG r0) fun r1 _=>
 .cH [0] (nR p_x.gq r1) fun r2 _=>
 .cH [0] (nR p_x.bF r2) fun r3 _=>
 .cH [0] (nR p_x.cO r3) fun r4 _=>
 .cH [0] (VY p_x.bJ r4) fun r5 _=>
 .cH [0] (VW p_x.aG r5) fun r6 _=>
 .cH [0] (lS p_x.lI r6) fun r7 _=>
 .ask (Q1 p_x.dZ r7) fun r8 h0=>
 .say [.gU [0] (.tup []) [bW r8],.num p_x.dD.length] (okc (eF _ _ _ h0) (ok1 (ln_ p_x.dD au.lf)))<|
 .cH [0] (eF (p_x.dD.length:Int) r8) fun r9 _=>
 .l1 Tryz.f85 1 [1,1,1,1,1,1,1,1,1,1,1,0,1,0] 0 (.exit 0) (fun(v0,s10241)=>⟨[(0,.ptr 0 0),(3,.ptr 1 0),(4,.i_ v0)],[bW s10241,cZ p_x]⟩) (fun r_=>⟨[(0,.ptr 0 0),(3,.ptr 1 0)],[bW r_,cZ p_x]⟩) (ND R_ p_x) (0,r9) fun r10=>
 .nu p_x.dN lfI<|
 .cH [0] (eF (p_x.dN.length:Int) r10) fun r11 _=>
 .l1 Tryz.f85 1 [1,1,1,1,1,1,1,1,1,1,1,1,1,0,1,0] 0 (.exit 2) (fun(v1,s10284)=>⟨[(0,.ptr 0 0),(3,.ptr 1 0),(5,.i_ v1)],[bW s10284,cZ p_x]⟩) (fun r_=>⟨[(0,.ptr 0 0),(3,.ptr 1 0)],[bW r_,cZ p_x]⟩) (NG R_ p_x) (0,r11) fun r12=>
 .cH [0] (lU p_x.fH r12) fun r13 _=>
 .ret ⟨[.kill 1],[],[],1⟩ (r13)
theorem QZ(R_:NC):xW fun p_x p_b0=>Mo.den (Ti R_ p_x p_b0):=fun _ _=>dA Tryz.func85
def xX:Nat→NC
 |0=>{ m1:=fun p_x p_b0=>none,ok1:=fun _ _ _ h=>(by cases h) }
 |n_+1=>{ m1:=fun p_x p_b0=>Mo.den (Ti (xX n_) p_x p_b0),ok1:=QZ (xX n_) }
def Q27(p_x:au)(p_b0:Y5):Option (Y5):=(xX FU).m1 p_x p_b0
theorem VZ:xW Q27:=(xX FU).ok1
def X5(p_e:aZ)(p_b0:Y5):Mo (Y5):=
 .cH [0] (eF p_e.qA p_b0) fun r0 _=>
 .cH [0] (eF p_e.dZ r0) fun r1 _=>
 .cH [0] (lS p_e.oD r1) fun r2 _=>
 .cH [0] (eF p_e.qW r2) fun r3 _=>
 .cH [0] (VZ p_e.o8 r3) fun r4 _=>
 .ret ⟨[.kill 1],[],[],1⟩ (r4)
def Q97(p_e:aZ)(p_b0:Y5):Option (Y5):=Mo.den (X5 p_e p_b0)
theorem V3(p_e:aZ)(p_b0:Y5):FH (Q97 p_e p_b0) 37 [.ptr 0 0,.dat (aZ.lf1 p_e)] [bW p_b0] (fun _=>.tup []) (fun r=>[bW r]):=dA Tryz.func37
def X6(p_e:aZ):Mo (ByteArray):=
 .say [.at_ 6 1,.norm 1] ok0<|
 .cH [1] (V3 p_e (Y5.mk ⟨#[]⟩ false true)) fun r0 _=>
 .ret (dK 1) (r0.fS)
def Q78(p_e:aZ):Option (ByteArray):=Mo.den (X6 p_e)
theorem NH(p_e:aZ):FV (Q78 p_e) 44 [.dat (aZ.lf1 p_e)] (fun r=>.lf (.str r)):=dS Tryz.func44
def V4(p_a:aZ)(p_b:aZ):Mo (Bool):=
 .ask (Q78 p_a) fun r0 h0=>
 .say [] (ok1 (NH _ _ h0))<|
 .ask (Q78 p_b) fun r1 h1=>
 .say [.kJ (.q 0 (.q 2 (.l 1 (.l 3 (.q 4 (.q 5 .fin)))))) (some 3) [] [.res (.lf (.str r0)),.res (.lf (.str r1))] [4] 2 [(4,.lf (.bool (decide ((r0:ByteArray)=(r1:ByteArray)))))] [mX p_a,mX p_b]] (okc (NH _ _ h1) (ok1 (rf_ ⟨[(4,.lf (.bool (decide ((r0:ByteArray)=(r1:ByteArray)))))],[mX p_a,mX p_b]⟩)))<|
 .ret (dK 1) (decide ((r0:ByteArray)=(r1:ByteArray)))
def YT(p_a:aZ)(p_b:aZ):Option (Bool):=Mo.den (V4 p_a p_b)
theorem Rf(p_a:aZ)(p_b:aZ):FV (YT p_a p_b) 18 [.dat (aZ.lf1 p_a),.dat (aZ.lf1 p_b)] .b_:=dS Tryz.func18
abbrev xY(m:aj→Option (aj)):Prop:=∀p_v,FV (m p_v) 101 [.dat (aj.lf1 p_v)] (fun r=>.dat (aj.lf1 r))
abbrev xZ(m:(List aj)→Option (List aj)):Prop:=∀p_l,FH (m p_l) 154 [.lf (.rows 5 (p_l.map aj.lf)),.raw (.func (.func 101) #[] #[])] [] (fun r=>.lf (.rows 5 (r.map aj.lf))) (fun _=>[])
abbrev Ec(m:(List aA)→Option (List aA)):Prop:=∀p_l,FH (m p_l) 155 [.lf (.rows 6 (p_l.map aA.lf)),.raw (.func (.func 156) #[] #[])] [] (fun r=>.lf (.rows 6 (r.map aA.lf))) (fun _=>[])
abbrev Ed(m:aA→Option (aA)):Prop:=∀p_f,FV (m p_f) 156 [.dat (aA.lf1 p_f)] (fun r=>.dat (aA.lf1 r))
structure uy where
 m1:(p_v:aj)→Option (aj)
 ok1:xY m1
 m2:(p_l:List aj)→Option (List aj)
 ok2:xZ m2
 m3:(p_l:List aA)→Option (List aA)
 ok3:Ec m3
 m4:(p_f:aA)→Option (aA)
 ok4:Ed m4
def Tj(R_:uy)(p_v:aj):Mo (aj):=
 .cH [] (R_.ok2 p_v.dM) fun r0 _=>
 .cH [] (R_.ok3 p_v.bF) fun r1 _=>
 .ret (dK 1) (aj.mk p_v.aB p_v.dY p_v.fText r0 r1)
theorem Rh(R_:uy):xY fun p_v=>Mo.den (Tj R_ p_v):=fun _=>dS Tryz.func101
def Tn(R_:uy)(p_l:List aj):Mo (List aj):=
 .nu p_l aj.lf<|
 .iB ((p_l.length:Int)==0) (.ret ⟨[.nil 0 5,.tod 0],[0],[],0⟩ ([]))<|
 .stop
theorem Ri(R_:uy):xZ fun p_l=>Mo.den (Tn R_ p_l):=fun _=>dA Tryz.func154
def NI(R_:uy)(p_l:List aA):(Int×(List aA))→Mo ((Int×(List aA))⊕((List aA))):=fun(v0,l0)=>
 .iB (decide ((v0:Int)<(p_l.length:Int))) (.gx aA.dw p_l v0 fun x0 _=>
 .cl (R_.ok4 x0) fun r0 _=>
 .ask (wE l0 v0) fun x1 h0=>
 .say [.row (aA.lf1 x1),.rows ((l0.set v0.toNat r0).map aA.lf)] (okc (O1 aA.dw h0) (okc (st_ aA.dw l0 v0.toNat r0) (ok1 ((kV aA.dw h0).2))))<|
 .rt [1,5,14,15,16] 1 (.inl (IntKind.wrap .i64 (v0+1),l0.set v0.toNat r0)))<|
 .rt [5] 1 (.inr (l0))
def Tq(R_:uy)(p_l:List aA):Mo (List aA):=
 .nu p_l aA.lf<|
 .iB ((p_l.length:Int)==0) (.ret ⟨[.nil 0 6,.tod 0],[0],[],0⟩ ([]))<|
 .say [.num p_l.length,.rows ((List.replicate (p_l.length:Int).toNat (aA.mk ⟨#[]⟩ (aj.mk 0 0 ⟨#[]⟩ [] []))).map aA.lf),.num p_l.length] (okc (ln_ p_l aA.lf) (ok1 (rp_ aA.dw (p_l.length:Int).toNat (aA.mk ⟨#[]⟩ (aj.mk 0 0 ⟨#[]⟩ [] [])))))<|
 .grd ((0:Int)≤(p_l.length:Int)∧96*(p_l.length:Int).toNat≤281474976710656∧(p_l.length:Int).toNat≤maxLen) fun h0=>
 .say [] (okc (mk_ (p_l.length:Int) h0) (ok1 (ln_ p_l aA.lf)))<|
 .l1 Tryz.f155 0 [1,1,1,0,1,0] 0 (.exit 0) (fun(v0,l0)=>⟨[(1,.raw (.func (.func 156) #[] #[])),(5,.own 0),(14,.lf (.rows 6 (p_l.map aA.lf))),(15,.i_ (p_l.length:Int)),(16,.i_ v0)],[.row 115 6 (l0.map aA.lf)]⟩) (fun r_=>⟨[(5,.own 0)],[.row 115 6 (r_.map aA.lf)]⟩) (NI R_ p_l) (0,(List.replicate (p_l.length:Int).toNat (aA.mk ⟨#[]⟩ (aj.mk 0 0 ⟨#[]⟩ [] [])))) fun r0=>
 .ret ⟨[.frz 0],[0],[],0⟩ (r0)
theorem Rj(R_:uy):Ec fun p_l=>Mo.den (Tq R_ p_l):=fun _=>dA Tryz.func155
def NJ(R_:uy)(p_f:aA):Mo (aA):=
 .say [.order [(true,0),(true,1),(true,2),(true,3),(false,4),(true,5),(false,6)] (some 6) []] ok0<|
 .cl (R_.ok1 p_f.fValue) fun r0 _=>
 .ret (dK 1) (aA.mk p_f.fName r0)
theorem NK(R_:uy):Ed fun p_f=>Mo.den (NJ R_ p_f):=fun _=>dS Tryz.func156
def jr:Nat→uy
 |0=>{ m1:=fun p_v=>none,ok1:=fun _ _ h=>(by cases h),m2:=fun p_l=>none,ok2:=fun _ _ h=>(by cases h),m3:=fun p_l=>none,ok3:=fun _ _ h=>(by cases h),m4:=fun p_f=>none,ok4:=fun _ _ h=>(by cases h) }
 |n_+1=>{ m1:=fun p_v=>Mo.den (Tj (jr n_) p_v),ok1:=Rh (jr n_),m2:=fun p_l=>Mo.den (Tn (jr n_) p_l),ok2:=Ri (jr n_),m3:=fun p_l=>Mo.den (Tq (jr n_) p_l),ok3:=Rj (jr n_),m4:=fun p_f=>Mo.den (NJ (jr n_) p_f),ok4:=NK (jr n_) }
def Q44(p_v:aj):Option (aj):=(jr FU).m1 p_v
theorem nS:xY Q44:=(jr FU).ok1
def Q38(p_l:List aj):Option (List aj):=(jr FU).m2 p_l
theorem NM:xZ Q38:=(jr FU).ok2
def X7(p_l:List ByteArray):Mo (List ByteArray):=
 .say [.rows (p_l.map lfS),.at_ 0 0,.frz 0] (ok1 (by simp[lfS]:p_l.map lfS=[]++(p_l.map lfS)))<|
 .grd ((([]:List ByteArray).length+p_l.length)*16≤140737488355328) fun h0=>
 .say [] (ok1 (cq_ lfS h0))<|
 .ret (dK 1) (p_l)
def Q80(p_l:List ByteArray):Option (List ByteArray):=Mo.den (X7 p_l)
theorem yc(p_l:List ByteArray):FV (Q80 p_l) 238 [.lf (.rows 1 (p_l.map lfS))] (fun r=>.lf (.rows 1 (r.map lfS))):=dS Tryz.func238
def X8(p_l:List bG):Mo (List bG):=
 .nu p_l bG.lf<|
 .iB ((p_l.length:Int)==0) (.say [] (ok1 (by simp[bG.dw]:(([]:List bG).map bG.lf)=[]))<|
 .ret ⟨[.lg 0 149 2,.iR 0 (([]:List bG).map bG.lf),.mvn 0],[0],[(1,0)],1⟩ (([]:List bG)))<|
 .stop
def Q98(p_l:List bG):Option (List bG):=Mo.den (X8 p_l)
theorem V5(p_l:List bG):FH (Q98 p_l) 159 [.lf (.rows 2 (p_l.map bG.lf)),.raw (.func (.func 160) #[] #[])] [] (fun _=>.own 0) (fun r=>[.row 149 2 (r.map bG.lf)]):=dA Tryz.func159
abbrev yg(m:aJ→Option (aJ)):Prop:=∀p_e,FV (m p_e) 242 [.dat (aJ.lf1 p_e)] (fun r=>.dat (aJ.lf1 r))
abbrev Ee(m:(List aJ)→Option (List aJ)):Prop:=∀p_l,FH (m p_l) 295 [.lf (.rows 11 (p_l.map aJ.lf)),.raw (.func (.func 242) #[] #[])] [] (fun r=>.lf (.rows 11 (r.map aJ.lf))) (fun _=>[])
structure NP where
 m1:(p_e:aJ)→Option (aJ)
 ok1:yg m1
 m2:(p_l:List aJ)→Option (List aJ)
 ok2:Ee m2
def Tt(R_:NP)(p_e:aJ):Mo (aJ):=
 .cl (yc p_e.dW) fun r0 _=>
 .cl (yc p_e.gy) fun r1 _=>
 .cl (nS p_e.fArg) fun r2 _=>
 .cH [] (R_.ok2 p_e.dO) fun r3 _=>
 .ret (dK 1) (aJ.mk p_e.fOp r0 p_e.fName r1 r2 p_e.fN r3)
theorem Rk(R_:NP):yg fun p_e=>Mo.den (Tt R_ p_e):=fun _=>dS Tryz.func242
def NQ(R_:NP)(p_l:List aJ):Mo (List aJ):=
 .nu p_l aJ.lf<|
 .iB ((p_l.length:Int)==0) (.ret ⟨[.nil 0 11,.tod 0],[0],[],0⟩ ([]))<|
 .stop
theorem NR(R_:NP):Ee fun p_l=>Mo.den (NQ R_ p_l):=fun _=>dA Tryz.func295
def qj:Nat→NP
 |0=>{ m1:=fun p_e=>none,ok1:=fun _ _ h=>(by cases h),m2:=fun p_l=>none,ok2:=fun _ _ h=>(by cases h) }
 |n_+1=>{ m1:=fun p_e=>Mo.den (Tt (qj n_) p_e),ok1:=Rk (qj n_),m2:=fun p_l=>Mo.den (NQ (qj n_) p_l),ok2:=NR (qj n_) }
def Q96(p_e:aJ):Option (aJ):=(qj FU).m1 p_e
theorem V6:yg Q96:=(qj FU).ok1
end
end Go.Proofs.YtflpefkohpjjpaaGreatDoor
