/- Printed by dec.py. -/
import Derived.Test.YtflpefkohpjjpaaGreatDoorQX6
set_option linter.unusedSimpArgs false
set_option linter.unusedVariables false
namespace Go.Proofs.YtflpefkohpjjpaaGreatDoor
open Go.RowKit
set_option maxRecDepth 20000
set_option maxHeartbeats 4000000
noncomputable section
abbrev W9(m:aI→aH→Option (aH)):Prop:=∀p_s p_b0,FH (m p_s p_b0) 135 [.ptr 0 0,.dat (aI.lf1 p_s)] [.box 75 (.agg [.own 1,.b_ p_b0.dS]),.row 5 1 (p_b0.bF.map (lfK .u8))] (fun _=>.tup []) (fun r=>[.box 75 (.agg [.own 2,.b_ r.dS]),.dead,.row 5 1 (r.bF.map (lfK .u8))])
abbrev agc(m:(List bH)→aH→Option (aH)):Prop:=∀p_l p_b0,FH (m p_l p_b0) 210 [.ptr 0 0,.lf (.rows 22 (p_l.map bH.lf)),.raw (.func (.func 211) #[] #[])] [.box 75 (.agg [.own 1,.b_ p_b0.dS]),.row 5 1 (p_b0.bF.map (lfK .u8))] (fun _=>.tup []) (fun r=>[.box 75 (.agg [.own 2,.b_ r.dS]),.dead,.row 5 1 (r.bF.map (lfK .u8))])
abbrev agd(m:(List aI)→aH→Option (aH)):Prop:=∀p_l p_b0,FH (m p_l p_b0) 212 [.ptr 0 0,.lf (.rows 21 (p_l.map aI.lf)),.raw (.func (.func 135) #[] #[])] [.box 75 (.agg [.own 1,.b_ p_b0.dS]),.row 5 1 (p_b0.bF.map (lfK .u8))] (fun _=>.tup []) (fun r=>[.box 75 (.agg [.own 2,.b_ r.dS]),.dead,.row 5 1 (r.bF.map (lfK .u8))])
abbrev agf(m:bH→aH→Option (aH)):Prop:=∀p_p p_b0,FH (m p_p p_b0) 211 [.ptr 0 0,.dat (bH.lf1 p_p)] [.box 75 (.agg [.own 1,.b_ p_b0.dS]),.row 5 1 (p_b0.bF.map (lfK .u8))] (fun _=>.tup []) (fun r=>[.box 75 (.agg [.own 2,.b_ r.dS]),.dead,.row 5 1 (r.bF.map (lfK .u8))])
structure Np where
 m1:(p_s:aI)→(p_b0:aH)→Option (aH)
 ok1:W9 m1
 m2:(p_l:List bH)→(p_b0:aH)→Option (aH)
 ok2:agc m2
 m3:(p_l:List aI)→(p_b0:aH)→Option (aH)
 ok3:agd m3
 m4:(p_p:bH)→(p_b0:aH)→Option (aH)
 ok4:agf m4
def Xa(R_:Np)(p_s:aI)(p_b0:aH):Mo (aH):=
 .cH [0,1] (gY p_s.ig p_b0) fun r0 _=>
 .cH [0,3] (rV p_s.iO r0) fun r1 _=>
 .cH [0,4] (tX p_s.kP r1) fun r2 _=>
 .cH [0,5] (rV p_s.iP r2) fun r3 _=>
 .cH [0,6] (tX p_s.kQ r3) fun r4 _=>
 .cH [0,7] (af8 p_s.gZ r4) fun r5 _=>
 .cH [0,8] (gY p_s.jD r5) fun r6 _=>
 .cH [0,9] (gY p_s.jE r6) fun r7 _=>
 .cH [0,10] (Nl p_s.dW r7) fun r8 _=>
 .cH [0,11] (R_.ok2 p_s.cZ r8) fun r9 _=>
 .cH [0,12] (rV p_s.kG r9) fun r10 _=>
 .cH [0,13] (R_.ok3 p_s.dV r10) fun r11 _=>
 .cH [0,14] (rV p_s.fC r11) fun r12 _=>
 .ret ⟨[.kill 2,.mvn 15],[],[(16,2)],3⟩ (r12)
theorem alr(R_:Np):W9 fun p_s p_b0=>Mo.den (Xa R_ p_s p_b0):=fun _ _=>eP Tryz.func135
def Hu(R_:Np)(p_l:List bH):(Int×Bool×(List Int))→Mo ((Int×Bool×(List Int))⊕(Bool×(List Int))):=fun(v0,v1,l0)=>
 .iB (decide ((v0:Int)<(p_l.length:Int))) (.gx bH.aX p_l v0 fun x0 _=>
 .say [.at_ 10 3,.tod 20] ok0<|
 .cH [0,2] (R_.ok4 x0 (aH.mk l0 v1)) fun r0 _=>
 .ret ⟨[],[0,2,12,13,14],[(4,2)],3⟩ (.inl (IntKind.wrap .i64 (v0+1),r0.dS,r0.bF)))<|
 .rt [] 3 (.inr (v1,l0))
def Xb(R_:Np)(p_l:List bH)(p_b0:aH):Mo (aH):=
 .nu p_l bH.lf<|
 .ask (Q18 (p_l.length:Int) p_b0) fun r0 h0=>
 .say [.jm [0,1] (.tup []) [.box 75 (.agg [.own 2,.b_ r0.dS]),.dead,.row 5 1 (r0.bF.map (lfK .u8))],.num p_l.length] (okc (gY _ _ _ h0) (ok1 (ln_ p_l bH.lf)))<|
 .l1 Tryz.f210 2 [1,1,0] 0 (.exit 0) (fun(v0,v1,l0)=>⟨[(0,.ptr 0 0),(2,.raw (.func (.func 211) #[] #[])),(12,.lf (.rows 22 (p_l.map bH.lf))),(13,.i_ (p_l.length:Int)),(14,.i_ v0)],[.box 75 (.agg [.own 2,.b_ v1]),.dead,.row 5 1 (l0.map (lfK .u8))]⟩) (fun r_=>⟨[],[.box 75 (.agg [.own 2,.b_ r_.1]),.dead,.row 5 1 (r_.2.map (lfK .u8))]⟩) (Hu R_ p_l) (0,r0.dS,r0.bF) fun r1=>
 .ret ⟨[.mvn 2],[],[(3,2)],3⟩ (aH.mk r1.2 r1.1)
theorem als(R_:Np):agc fun p_l p_b0=>Mo.den (Xb R_ p_l p_b0):=fun _ _=>eP Tryz.func210
def Hw(R_:Np)(p_l:List aI):(Int×Bool×(List Int))→Mo ((Int×Bool×(List Int))⊕(Bool×(List Int))):=fun(v0,v1,l0)=>
 .iB (decide ((v0:Int)<(p_l.length:Int))) (.gx aI.aX p_l v0 fun x0 _=>
 .say [.at_ 10 3,.tod 20] ok0<|
 .cH [0,2] (R_.ok1 x0 (aH.mk l0 v1)) fun r0 _=>
 .ret ⟨[],[0,2,12,13,14],[(4,2)],3⟩ (.inl (IntKind.wrap .i64 (v0+1),r0.dS,r0.bF)))<|
 .rt [] 3 (.inr (v1,l0))
def Xc(R_:Np)(p_l:List aI)(p_b0:aH):Mo (aH):=
 .nu p_l aI.lf<|
 .ask (Q18 (p_l.length:Int) p_b0) fun r0 h0=>
 .say [.jm [0,1] (.tup []) [.box 75 (.agg [.own 2,.b_ r0.dS]),.dead,.row 5 1 (r0.bF.map (lfK .u8))],.num p_l.length] (okc (gY _ _ _ h0) (ok1 (ln_ p_l aI.lf)))<|
 .l1 Tryz.f212 2 [1,1,0] 0 (.exit 0) (fun(v0,v1,l0)=>⟨[(0,.ptr 0 0),(2,.raw (.func (.func 135) #[] #[])),(12,.lf (.rows 21 (p_l.map aI.lf))),(13,.i_ (p_l.length:Int)),(14,.i_ v0)],[.box 75 (.agg [.own 2,.b_ v1]),.dead,.row 5 1 (l0.map (lfK .u8))]⟩) (fun r_=>⟨[],[.box 75 (.agg [.own 2,.b_ r_.1]),.dead,.row 5 1 (r_.2.map (lfK .u8))]⟩) (Hw R_ p_l) (0,r0.dS,r0.bF) fun r1=>
 .ret ⟨[.mvn 2],[],[(3,2)],3⟩ (aH.mk r1.2 r1.1)
theorem alu(R_:Np):agd fun p_l p_b0=>Mo.den (Xc R_ p_l p_b0):=fun _ _=>eP Tryz.func212
def Xd(R_:Np)(p_p:bH)(p_b0:aH):Mo (aH):=
 .cH [0,1] (tV p_p.fName p_b0) fun r0 _=>
 .cH [0,3] (R_.ok1 p_p.bn r0) fun r1 _=>
 .ret ⟨[.kill 2,.mvn 4],[],[(5,2)],3⟩ (r1)
theorem alv(R_:Np):agf fun p_p p_b0=>Mo.den (Xd R_ p_p p_b0):=fun _ _=>eP Tryz.func211
def ku:Nat→Np
 |0=>{ m1:=fun p_s p_b0=>none,ok1:=fun _ _ _ h=>(by cases h),m2:=fun p_l p_b0=>none,ok2:=fun _ _ _ h=>(by cases h),m3:=fun p_l p_b0=>none,ok3:=fun _ _ _ h=>(by cases h),m4:=fun p_p p_b0=>none,ok4:=fun _ _ _ h=>(by cases h) }
 |n_+1=>{ m1:=fun p_s p_b0=>Mo.den (Xa (ku n_) p_s p_b0),ok1:=alr (ku n_),m2:=fun p_l p_b0=>Mo.den (Xb (ku n_) p_l p_b0),ok2:=als (ku n_),m3:=fun p_l p_b0=>Mo.den (Xc (ku n_) p_l p_b0),ok3:=alu (ku n_),m4:=fun p_p p_b0=>Mo.den (Xd (ku n_) p_p p_b0),ok4:=alv (ku n_) }
def awu(p_s:aI)(p_b0:aH):Option (aH):=(ku FU).m1 p_s p_b0
theorem aqf:W9 awu:=(ku FU).ok1
def alx(p_d:bW)(p_b0:aH):Mo (aH):=
 .cH [0,1] (tV p_d.fName p_b0) fun r0 _=>
 .cH [0,3] (aqe p_d.bJ r0) fun r1 _=>
 .cH [0,4] (aqf p_d.bn r1) fun r2 _=>
 .cH [0,5] (gY p_d.jZ r2) fun r3 _=>
 .cH [0,6] (gY p_d.iI r3) fun r4 _=>
 .ret ⟨[.kill 2,.mvn 7],[],[(8,2)],3⟩ (r4)
def aun(p_d:bW)(p_b0:aH):Option (aH):=Mo.den (alx p_d p_b0)
theorem aqg(p_d:bW)(p_b0:aH):FH (aun p_d p_b0) 77 [.ptr 0 0,.dat (bW.lf1 p_d)] [.box 75 (.agg [.own 1,.b_ p_b0.dS]),.row 5 1 (p_b0.bF.map (lfK .u8))] (fun _=>.tup []) (fun r=>[.box 75 (.agg [.own 2,.b_ r.dS]),.dead,.row 5 1 (r.bF.map (lfK .u8))]):=eP Tryz.func77
def aly(p_n:Int)(p_b0:aH):Mo (aH):=
 .cH [0,1] (gY p_n p_b0) fun r0 _=>
 .ret ⟨[.mvn 2],[],[(3,2)],3⟩ (r0)
def auo(p_n:Int)(p_b0:aH):Option (aH):=Mo.den (aly p_n p_b0)
theorem aqh(p_n:Int)(p_b0:aH):FH (auo p_n p_b0) 81 [.ptr 0 0,.i_ p_n] [.box 75 (.agg [.own 1,.b_ p_b0.dS]),.row 5 1 (p_b0.bF.map (lfK .u8))] (fun _=>.tup []) (fun r=>[.box 75 (.agg [.own 2,.b_ r.dS]),.dead,.row 5 1 (r.bF.map (lfK .u8))]):=eP Tryz.func81
def Hy(p_l:List Int):(Int×Bool×(List Int))→Mo ((Int×Bool×(List Int))⊕(Bool×(List Int))):=fun(v0,v1,l0)=>
 .iB (decide ((v0:Int)<(p_l.length:Int))) (.gx lI_ p_l v0 fun x0 _=>
 .cH [0,2] (aqh x0 (aH.mk l0 v1)) fun r0 _=>
 .ret ⟨[],[0,2,12,13,14],[(3,2)],3⟩ (.inl (IntKind.wrap .i64 (v0+1),r0.dS,r0.bF)))<|
 .rt [] 3 (.inr (v1,l0))
def alz(p_l:List Int)(p_b0:aH):Mo (aH):=
 .nu p_l lfI<|
 .ask (Q18 (p_l.length:Int) p_b0) fun r0 h0=>
 .say [.jm [0,1] (.tup []) [.box 75 (.agg [.own 2,.b_ r0.dS]),.dead,.row 5 1 (r0.bF.map (lfK .u8))],.num p_l.length] (okc (gY _ _ _ h0) (ok1 (ln_ p_l lfI)))<|
 .l1 Tryz.f80 2 [1,1,0] 0 (.exit 0) (fun(v0,v1,l0)=>⟨[(0,.ptr 0 0),(2,.raw (.func (.func 81) #[] #[])),(12,.lf (.rows 1 (p_l.map lfI))),(13,.i_ (p_l.length:Int)),(14,.i_ v0)],[.box 75 (.agg [.own 2,.b_ v1]),.dead,.row 5 1 (l0.map (lfK .u8))]⟩) (fun r_=>⟨[],[.box 75 (.agg [.own 2,.b_ r_.1]),.dead,.row 5 1 (r_.2.map (lfK .u8))]⟩) (Hy p_l) (0,r0.dS,r0.bF) fun r1=>
 .ret ⟨[.mvn 2],[],[(3,2)],3⟩ (aH.mk r1.2 r1.1)
def aup(p_l:List Int)(p_b0:aH):Option (aH):=Mo.den (alz p_l p_b0)
theorem aqi(p_l:List Int)(p_b0:aH):FH (aup p_l p_b0) 80 [.ptr 0 0,.lf (.rows 1 (p_l.map lfI)),.raw (.func (.func 81) #[] #[])] [.box 75 (.agg [.own 1,.b_ p_b0.dS]),.row 5 1 (p_b0.bF.map (lfK .u8))] (fun _=>.tup []) (fun r=>[.box 75 (.agg [.own 2,.b_ r.dS]),.dead,.row 5 1 (r.bF.map (lfK .u8))]):=eP Tryz.func80
abbrev Xe(m:aG→aH→Option (aH)):Prop:=∀p_x p_b0,FH (m p_x p_b0) 36 [.ptr 0 0,.dat (aG.lf1 p_x)] [.box 75 (.agg [.own 1,.b_ p_b0.dS]),.row 5 1 (p_b0.bF.map (lfK .u8))] (fun _=>.tup []) (fun r=>[.box 75 (.agg [.own 2,.b_ r.dS]),.dead,.row 5 1 (r.bF.map (lfK .u8))])
abbrev agh(m:(List aG)→aH→Option (aH)):Prop:=∀p_l p_b0,FH (m p_l p_b0) 79 [.ptr 0 0,.lf (.rows 78 (p_l.map aG.lf)),.raw (.func (.func 36) #[] #[])] [.box 75 (.agg [.own 1,.b_ p_b0.dS]),.row 5 1 (p_b0.bF.map (lfK .u8))] (fun _=>.tup []) (fun r=>[.box 75 (.agg [.own 2,.b_ r.dS]),.dead,.row 5 1 (r.bF.map (lfK .u8))])
structure ah6 where
 m1:(p_x:aG)→(p_b0:aH)→Option (aH)
 ok1:Xe m1
 m2:(p_l:List aG)→(p_b0:aH)→Option (aH)
 ok2:agh m2
def Xf(R_:ah6)(p_x:aG)(p_b0:aH):Mo (aH):=
 .cH [0,1] (gY p_x.aF p_b0) fun r0 _=>
 .cH [0,3] (tV p_x.fV r0) fun r1 _=>
 .cH [0,4] (tX p_x.fZ r1) fun r2 _=>
 .cH [0,5] (tX p_x.aW r2) fun r3 _=>
 .cH [0,6] (tX p_x.dG r3) fun r4 _=>
 .cH [0,7] (aqg p_x.dO r4) fun r5 _=>
 .cH [0,8] (agb p_x.bf r5) fun r6 _=>
 .cH [0,9] (tV p_x.mO r6) fun r7 _=>
 .cH [0,10] (gY p_x.dU r7) fun r8 _=>
 .cH [0,11] (R_.ok2 p_x.bP r8) fun r9 _=>
 .cH [0,12] (aqi p_x.dK r9) fun r10 _=>
 .cH [0,13] (rV p_x.gq r10) fun r11 _=>
 .ret ⟨[.kill 2,.mvn 14],[],[(15,2)],3⟩ (r11)
theorem alA(R_:ah6):Xe fun p_x p_b0=>Mo.den (Xf R_ p_x p_b0):=fun _ _=>eP Tryz.func36
def Hz(R_:ah6)(p_l:List aG):(Int×Bool×(List Int))→Mo ((Int×Bool×(List Int))⊕(Bool×(List Int))):=fun(v0,v1,l0)=>
 .iB (decide ((v0:Int)<(p_l.length:Int))) (.gx aG.aX p_l v0 fun x0 _=>
 .say [.at_ 10 3,.tod 20] ok0<|
 .cH [0,2] (R_.ok1 x0 (aH.mk l0 v1)) fun r0 _=>
 .ret ⟨[],[0,2,12,13,14],[(4,2)],3⟩ (.inl (IntKind.wrap .i64 (v0+1),r0.dS,r0.bF)))<|
 .rt [] 3 (.inr (v1,l0))
def Xg(R_:ah6)(p_l:List aG)(p_b0:aH):Mo (aH):=
 .nu p_l aG.lf<|
 .ask (Q18 (p_l.length:Int) p_b0) fun r0 h0=>
 .say [.jm [0,1] (.tup []) [.box 75 (.agg [.own 2,.b_ r0.dS]),.dead,.row 5 1 (r0.bF.map (lfK .u8))],.num p_l.length] (okc (gY _ _ _ h0) (ok1 (ln_ p_l aG.lf)))<|
 .l1 Tryz.f79 2 [1,1,0] 0 (.exit 0) (fun(v0,v1,l0)=>⟨[(0,.ptr 0 0),(2,.raw (.func (.func 36) #[] #[])),(12,.lf (.rows 78 (p_l.map aG.lf))),(13,.i_ (p_l.length:Int)),(14,.i_ v0)],[.box 75 (.agg [.own 2,.b_ v1]),.dead,.row 5 1 (l0.map (lfK .u8))]⟩) (fun r_=>⟨[],[.box 75 (.agg [.own 2,.b_ r_.1]),.dead,.row 5 1 (r_.2.map (lfK .u8))]⟩) (Hz R_ p_l) (0,r0.dS,r0.bF) fun r1=>
 .ret ⟨[.mvn 2],[],[(3,2)],3⟩ (aH.mk r1.2 r1.1)
theorem alB(R_:ah6):agh fun p_l p_b0=>Mo.den (Xg R_ p_l p_b0):=fun _ _=>eP Tryz.func79
def qM:Nat→ah6
 |0=>{ m1:=fun p_x p_b0=>none,ok1:=fun _ _ _ h=>(by cases h),m2:=fun p_l p_b0=>none,ok2:=fun _ _ _ h=>(by cases h) }
 |n_+1=>{ m1:=fun p_x p_b0=>Mo.den (Xf (qM n_) p_x p_b0),ok1:=alA (qM n_),m2:=fun p_l p_b0=>Mo.den (Xg (qM n_) p_l p_b0),ok2:=alB (qM n_) }
def aqj(p_x:aG)(p_b0:aH):Option (aH):=(qM FU).m1 p_x p_b0
theorem aqk:Xe aqj:=(qM FU).ok1
def alC(p_e:bY):Mo (ByteArray×Int):=
 .cl (JU p_e) fun r0 _=>
 .iB (r0 != 0) (.ret (aU 2) (⟨#[]⟩,r0))<|
 .say [.at_ 12 3,.aot 1 0 5,.mF 2 (([]:List Int).map (lfK .u8))] (ok1 (by simp[lfI,lfK]:(([]:List Int).map (lfK .u8))=[]))<|
 .cH [1,2] (gY p_e.rH (aH.mk ([]:List Int) false)) fun r1 _=>
 .cH [1,3] (gY p_e.dU r1) fun r2 _=>
 .cH [1,4] (tV p_e.kH r2) fun r3 _=>
 .cH [1,5] (gY p_e.oO r3) fun r4 _=>
 .cH [1,6] (aqk p_e.dh r4) fun r5 _=>
 .iB (r5.dS) (.ret (aU 2) (⟨#[]⟩,8))<|
 .say [.nums r5.bF] (ok1 (by simp[lfI,lfK]:(r5.bF.map (lfK .u8))=r5.bF.map fun n=>[Lf.int .u8 n]))<|
 .ret (aU 2) (strOfNums r5.bF,0)
def ah7(p_e:bY):Option (ByteArray×Int):=Mo.den (alC p_e)
theorem JW(p_e:bY):FV (ah7 p_e) 14 [.dat (bY.lf1 p_e)] (fun r=>.tup [.lf (.str r.1),.i_ r.2]):=dw Tryz.func14
def ah8(p_at:Int)(p_s:ByteArray):Mo (Bool):=
 .iG 4002 (decide ((p_at:Int)<0)) (.stop)<|
 .rt [0,1,17] 0 (decide (((p_s.size:Int):Int)<p_at))
def ah9(b0:UInt8)(p_at:Int)(p_s:ByteArray)(v0:Int)(v1:Int):Mo (Bool):=
 .iG 20002 (v1==9) (.stop)<|
 .rt [0,1,7,8,9,36] 0 (false)
def adF(b0:UInt8)(p_at:Int)(p_s:ByteArray)(r0:Bool)(v0:Int)(v1:Int):Mo (Bool):=
 .iG 20006 (r0) (.stop)<|
 .iG 20009 (decide ((0:Int)<v1)) (.stop)<|
 .rt [0,1,7,8,9,44] 0 (false)
def adG(p_at:Int)(p_s:ByteArray):(Int×Int)→Mo ((Int×Int)⊕(Int×Int×Int)):=fun(v0,v1)=>
 .iB ((IntKind.wrap .i64 (p_at+v1))==(p_s.size:Int)) (.rt [4,5,6] 0 (.inr (0,0,5)))<|
 .ask (jY p_s (IntKind.wrap .i64 (p_at+v1))) fun b0 h0=>
 .say [.byt b0] (ok1 (eY h0))<|
 .sf Tryz.f86 0 [1,1,1,1,0,0,0,0,1,1,0,0] 0 6 9 [(0,.lf (.str p_s)),(1,.i_ p_at),(7,.lf (.int .u64 v0)),(8,.i_ v1),(9,.lf (.int .u8 (b0.toNat:Int)))] [] 36 (ah9 b0 p_at p_s v0 v1) fun r0=>
 .sb Tryz.f86 0 [1,1,1,1,0,0,0,0,1,1,0,0] 6 8 9 [(0,.lf (.str p_s)),(1,.i_ p_at),(7,.lf (.int .u64 v0)),(8,.i_ v1),(9,.lf (.int .u8 (b0.toNat:Int)))] [] 36 44 r0 (adF b0 p_at p_s r0 v0 v1) fun r1=>
 .iB (r1) (.stop)<|
 .grd ((0:Int)≤(IntKind.wrap .i64 (7*v1))) fun h1=>
 .say [] (ok1 h1)<|
 .iB (decide (((b0.toNat:Int):Int)<128)) (.say [] (ok1 (by decide:(0:Int)≤1))<|
 .rt [4,5,6] 0 (.inr (eU .xor .i64 (IntKind.wrap .i64 (yh .u64 (eU .or .u64 v0 (F7 .u64 (IntKind.wrap .u64 (eU .and .u8 (b0.toNat:Int) 127)) (IntKind.wrap .i64 (7*v1)))) 1)) (IntKind.wrap .i64 (0-(IntKind.wrap .i64 (eU .and .u64 (eU .or .u64 v0 (F7 .u64 (IntKind.wrap .u64 (eU .and .u8 (b0.toNat:Int) 127)) (IntKind.wrap .i64 (7*v1)))) 1)))),IntKind.wrap .i64 ((IntKind.wrap .i64 (p_at+v1))+1),0)))<|
 .stop
def auq(p_s:ByteArray)(p_at:Int):Mo (Int×Int×Int):=
 .jk Tryz.f86 0 [1,0,0] 9 (fun r_=>⟨[(0,.lf (.str p_s)),(1,.i_ p_at),(17,.b_ r_)],[]⟩) ⟨[(0,.lf (.str p_s)),(1,.i_ p_at)],[]⟩ (ah8 p_at p_s) fun r0=>
 .iB (r0) (.stop)<|
 .l1 Tryz.f86 0 [1,1,1,1,0] 0 .ret (fun(v0,v1)=>⟨[(0,.lf (.str p_s)),(1,.i_ p_at),(7,.lf (.int .u64 v0)),(8,.i_ v1)],[]⟩) (fun r_=>⟨[(4,.i_ r_.1),(5,.i_ r_.2.1),(6,.i_ r_.2.2)],[]⟩) (adG p_at p_s) (0,0) fun r1=>
 .ret (aU 3) (r1.1,r1.2.1,r1.2.2)
def awv(p_s:ByteArray)(p_at:Int):Option (Int×Int×Int):=Mo.den (auq p_s p_at)
theorem aql(p_s:ByteArray)(p_at:Int):FV (awv p_s p_at) 86 [.lf (.str p_s),.i_ p_at] (fun r=>.tup [.i_ r.1,.i_ r.2.1,.i_ r.2.2]):=dw Tryz.func86
def aww(p_b0:aB):Mo (Int×aB):=
 .iB (p_b0.dS) (.rt [0] 1 (0,p_b0))<|
 .ask (awv p_b0.iM p_b0.fat) fun r0 h0=>
 .say [.jf (.q 0 (.q 1 (.q 2 (.q 3 (.q 4 (.q 5 (.q 6 (.q 7 (.l 8 (.q 9 (.q 10 (.q 11 (.q 12 (.q 13 (.q 14 (.q 15 .fin)))))))))))))))) (some 8) [] [.res (.tup [.i_ r0.1,.i_ r0.2.1,.i_ r0.2.2])] [0,3,4,5] 1 [(0,.ptr 0 0),(3,.i_ r0.1),(4,.i_ r0.2.1),(5,.i_ r0.2.2)] [bZ p_b0]] (okc (aql _ _ _ h0) (ok1 (rf_ ⟨[(0,.ptr 0 0),(3,.i_ r0.1),(4,.i_ r0.2.1),(5,.i_ r0.2.2)],[bZ p_b0]⟩)))<|
 .iB (r0.2.2 != 0) (.rt [0] 1 (0,aB.mk p_b0.iM p_b0.fat p_b0.fQ true))<|
 .rt [0] 1 (r0.1,aB.mk p_b0.iM r0.2.1 p_b0.fQ p_b0.dS)
def Q50(p_b0:aB):Option (Int×aB):=Mo.den (aww p_b0)
theorem iK(p_b0:aB):FH (Q50 p_b0) 38 [.ptr 0 0] [bZ p_b0] (fun r=>.i_ r.1) (fun r=>[bZ r.2]):=eP Tryz.func38
def aia(r0:Int×aB):Mo (Bool):=
 .say [.order [(true,0),(true,1),(true,2),(true,3),(true,4),(true,5),(true,6),(true,7),(true,8),(true,9),(true,10),(true,11),(true,12),(true,13),(true,14),(true,15),(true,16),(true,17),(true,18),(true,19),(true,20),(true,21)] none []] ok0<|
 .iG 6004 (r0.2.dS) (.rt [0,3,27] 1 (true))<|
 .iG 6008 (decide ((r0.1:Int)<0)) (.stop)<|
 .rt [0,3,27] 1 (decide ((IntKind.wrap .i64 ((r0.2.iM.size:Int)-r0.2.fat):Int)<r0.1))
def aur(p_b0:aB):Mo (ByteArray×aB):=
 .cH [0] (iK p_b0) fun r0 _=>
 .jk Tryz.f39 1 [1,1,0,0] 11 (fun r_=>⟨[(0,.ptr 0 0),(3,.i_ r0.1),(27,.b_ r_)],[bZ r0.2]⟩) ⟨[(0,.ptr 0 0),(3,.i_ r0.1)],[bZ r0.2]⟩ (aia r0) fun r1=>
 .iB (r1) (.rt [0] 1 (⟨#[]⟩,aB.mk r0.2.iM r0.2.fat r0.2.fQ true))<|
 .say [.order [(true,0),(true,1),(true,2),(true,3),(true,4),(true,5),(true,6),(true,7),(true,8),(true,9),(true,10),(true,11),(true,12),(true,13),(true,14),(true,15)] none []] ok0<|
 .grd ((0:Int)≤(IntKind.wrap .i64 ((IntKind.wrap .i64 (r0.2.fat+r0.1))-r0.1))∧(IntKind.wrap .i64 ((IntKind.wrap .i64 (r0.2.fat+r0.1))-r0.1))≤(IntKind.wrap .i64 (r0.2.fat+r0.1))∧(IntKind.wrap .i64 (r0.2.fat+r0.1))≤(r0.2.iM.size:Int)) fun h0=>
 .say [] (ok1 h0)<|
 .rt [0] 1 (r0.2.iM.extract (IntKind.wrap .i64 ((IntKind.wrap .i64 (r0.2.fat+r0.1))-r0.1)).toNat (IntKind.wrap .i64 (r0.2.fat+r0.1)).toNat,aB.mk r0.2.iM (IntKind.wrap .i64 (r0.2.fat+r0.1)) r0.2.fQ r0.2.dS)
def axj(p_b0:aB):Option (ByteArray×aB):=Mo.den (aur p_b0)
theorem wY(p_b0:aB):FH (axj p_b0) 39 [.ptr 0 0] [bZ p_b0] (fun r=>.lf (.str r.1)) (fun r=>[bZ r.2]):=eP Tryz.func39
theorem axk:VH (opsOf (Code.sub (bodyC Tryz.f93) [1,0,0])) [(true,0),(true,1),(true,2),(true,3),(true,4),(true,5),(true,6),(true,7),(true,8),(true,9),(true,10),(true,11),(true,12),(true,13),(true,14),(true,15),(true,16),(true,17),(true,18),(true,19),(true,20),(true,21),(true,22),(true,23),(true,24),(true,25),(true,26),(true,27)] none=true:=by kernel_rfl
def aib(p_b0:aB):Mo (Bool):=
 .say [.CB [(true,0),(true,1),(true,2),(true,3),(true,4),(true,5),(true,6),(true,7),(true,8),(true,9),(true,10),(true,11),(true,12),(true,13),(true,14),(true,15),(true,16),(true,17),(true,18),(true,19),(true,20),(true,21),(true,22),(true,23),(true,24),(true,25),(true,26),(true,27)] none []] (ok1 axk)<|
 .iG 4004 (p_b0.dS) (.rt [0,30] 1 (true))<|
 .iG 4016 (decide (((p_b0.iM.size:Int):Int)≤p_b0.fat)) (.stop)<|
 .ask (jY p_b0.iM p_b0.fat) fun b0 h0=>
 .say [.byt b0] (ok1 (eY h0))<|
 .rt [0,30] 1 (decide ((1:Int)<(b0.toNat:Int)))
def aus(p_b0:aB):Mo (Bool×aB):=
 .jk Tryz.f93 1 [1,0,0] 9 (fun r_=>⟨[(0,.ptr 0 0),(30,.b_ r_)],[bZ p_b0]⟩) ⟨[(0,.ptr 0 0)],[bZ p_b0]⟩ (aib p_b0) fun r0=>
 .iB (r0) (.rt [0] 1 (false,aB.mk p_b0.iM p_b0.fat p_b0.fQ true))<|
 .say [.order [(true,0),(true,1),(true,2),(true,3),(true,4),(true,5),(true,6),(true,7),(true,8),(true,9),(true,10),(true,11)] none []] ok0<|
 .ask (jY p_b0.iM (IntKind.wrap .i64 ((IntKind.wrap .i64 (p_b0.fat+1))-1))) fun b0 h0=>
 .say [.byt b0] (ok1 (eY h0))<|
 .rt [0] 1 ((b0.toNat:Int)==1,aB.mk p_b0.iM (IntKind.wrap .i64 (p_b0.fat+1)) p_b0.fQ p_b0.dS)
def axl(p_b0:aB):Option (Bool×aB):=Mo.den (aus p_b0)
theorem qY(p_b0:aB):FH (axl p_b0) 93 [.ptr 0 0] [bZ p_b0] (fun r=>.b_ r.1) (fun r=>[bZ r.2]):=eP Tryz.func93
def aut(p_b0:aB):Mo (ah×aB):=
 .cH [0] (qY p_b0) fun r0 _=>
 .iB (!r0.1) (.ret ⟨[.kill 1],[0],[],1⟩ (ah.mk 0 0 ⟨#[]⟩ [] [],r0.2))<|
 .ask (Q76 r0.2.iM r0.2.fat) fun r1 h0=>
 .say [.jf (.q 0 (.q 1 (.q 2 (.q 3 (.q 4 (.q 5 (.q 6 (.q 7 (.alt 8 (.q 9 (.q 10 (.q 11 (.q 12 (.l 13 (.l 14 (.q 15 (.q 16 .fin)))))))) (.l 13 (.l 8 (.q 9 (.q 10 (.q 11 (.q 12 (.l 14 (.q 15 (.q 16 .fin)))))))))))))))))) none [2] [.both [.at_ 8 8,.resv 1,.res (.tup [.dat (ah.lf1 r1.1),.i_ r1.2.1,.i_ r1.2.2]),.slot 2] [.at_ 8 13,.resv 1,.slot 2,.res (.tup [.dat (ah.lf1 r1.1),.i_ r1.2.1,.i_ r1.2.2])]] [0,2,3,4,5] 3 [(0,.ptr 0 0),(2,.ptr 1 0),(3,.ptr 2 0),(4,.i_ r1.2.1),(5,.i_ r1.2.2)] [bZ r0.2,.box 25 (.agg [.i_ 0,.i_ 0,.lf (.str ⟨#[]⟩),.cu 5,.cu 6]),.box 25 (.agg [.i_ r1.1.aF,.i_ r1.1.eF,.lf (.str r1.1.fText),.lf (.rows 5 (r1.1.aT.map ah.lf)),.lf (.rows 6 (r1.1.aW.map aJ.lf))])]] (okc (akj _ _ _ h0) (okc (rf_ ⟨[(0,.ptr 0 0),(2,.ptr 1 0),(3,.ptr 2 0),(4,.i_ r1.2.1),(5,.i_ r1.2.2)],[bZ r0.2,.box 25 (.agg [.i_ 0,.i_ 0,.lf (.str ⟨#[]⟩),.cu 5,.cu 6]),.box 25 (.agg [.i_ r1.1.aF,.i_ r1.1.eF,.lf (.str r1.1.fText),.lf (.rows 5 (r1.1.aT.map ah.lf)),.lf (.rows 6 (r1.1.aW.map aJ.lf))])]⟩) (okc (akj _ _ _ h0) (ok1 (rf_ ⟨[(0,.ptr 0 0),(2,.ptr 1 0),(3,.ptr 2 0),(4,.i_ r1.2.1),(5,.i_ r1.2.2)],[bZ r0.2,.box 25 (.agg [.i_ 0,.i_ 0,.lf (.str ⟨#[]⟩),.cu 5,.cu 6]),.box 25 (.agg [.i_ r1.1.aF,.i_ r1.1.eF,.lf (.str r1.1.fText),.lf (.rows 5 (r1.1.aT.map ah.lf)),.lf (.rows 6 (r1.1.aW.map aJ.lf))])]⟩)))))<|
 .iB (r1.2.2 != 0) (.stop)<|
 .ret ⟨[.kill 1,.kill 2],[0],[],1⟩ (r1.1,aB.mk r0.2.iM r1.2.1 r0.2.fQ r0.2.dS)
def axn(p_b0:aB):Option (ah×aB):=Mo.den (aut p_b0)
theorem wZ(p_b0:aB):FH (axn p_b0) 87 [.ptr 0 0] [bZ p_b0] (fun r=>.dat (ah.lf1 r.1)) (fun r=>[bZ r.2]):=eP Tryz.func87
def vH(r0:Int×aB):Mo (Bool):=
 .iG 6002 (decide ((r0.1:Int)<0)) (.stop)<|
 .rt [0,1,5,18] 1 (decide ((64:Int)≤r0.2.fQ))
def vI(r0:Int×aB)(r1:Bool):Mo (aB):=
 .iB (r1) (.stop)<|
 .rt [0,1,5] 1 (r0.2)
def aic(l0:List ByteArray)(r0:Int×aB)(s6548:aB)(v0:Int):Mo (Bool):=
 .iG 16003 (decide ((v0:Int)<r0.1)) (.stop)<|
 .rt [0,1,5,6,7,38] 2 (false)
def aie(r0:Int×aB):(Int×aB×(List ByteArray))→Mo ((Int×aB×(List ByteArray))⊕(aB×(List ByteArray))):=fun(v0,s6548,l0)=>
 .jk Tryz.f225 1 [1,1,1,1,1,0,1,0,0,0,0] 21 (fun r_=>⟨[(0,.ptr 0 0),(1,.raw (.func (.func 226) #[] #[])),(5,.i_ r0.1),(6,.own 1),(7,.i_ v0),(38,.b_ r_)],[bZ s6548,.row 9 1 (l0.map lfS)]⟩) ⟨[(0,.ptr 0 0),(1,.raw (.func (.func 226) #[] #[])),(5,.i_ r0.1),(6,.own 1),(7,.i_ v0)],[bZ s6548,.row 9 1 (l0.map lfS)]⟩ (aic l0 r0 s6548 v0) fun r1=>
 .iB (r1) (.stop)<|
 .rt [0,6] 2 (.inr (s6548,l0))
def awx(p_b0:aB):Mo ((List ByteArray)×aB):=
 .cH [0] (iK p_b0) fun r0 _=>
 .jk Tryz.f225 1 [1,1,0,0] 11 (fun r_=>⟨[(0,.ptr 0 0),(1,.raw (.func (.func 226) #[] #[])),(5,.i_ r0.1),(18,.b_ r_)],[bZ r0.2]⟩) ⟨[(0,.ptr 0 0),(1,.raw (.func (.func 226) #[] #[])),(5,.i_ r0.1)],[bZ r0.2]⟩ (vH r0) fun r1=>
 .jk Tryz.f225 1 [1,1,0,1] 1 (fun r_=>⟨[(0,.ptr 0 0),(1,.raw (.func (.func 226) #[] #[])),(5,.i_ r0.1)],[bZ r_]⟩) ⟨[(0,.ptr 0 0),(1,.raw (.func (.func 226) #[] #[])),(5,.i_ r0.1),(18,.b_ r1)],[bZ r0.2]⟩ (vI r0 r1) fun r2=>
 .say [] (ok1 (by simp[lfS]:(([]:List ByteArray).map lfS)=[]))<|
 .l1y [.uw 6 9 1,.mF 1 (([]:List ByteArray).map lfS)] Tryz.f225 1 [1,1,1,1,1,0,1,0] 0 (.exit 0) (fun(v0,s6548,l0)=>⟨[(0,.ptr 0 0),(1,.raw (.func (.func 226) #[] #[])),(5,.i_ r0.1),(6,.own 1),(7,.i_ v0)],[bZ s6548,.row 9 1 (l0.map lfS)]⟩) (fun r_=>⟨[(0,.ptr 0 0),(6,.own 1)],[bZ r_.1,.row 9 1 (r_.2.map lfS)]⟩) (aie r0) (0,(aB.mk r2.iM r2.fat (IntKind.wrap .i64 (r2.fQ+1)) r2.dS),([]:List ByteArray)) fun r3=>
 .ret ⟨[.mvn 1],[0],[(2,1)],2⟩ (r3.2,aB.mk r3.1.iM r3.1.fat (IntKind.wrap .i64 (r3.1.fQ-1)) r3.1.dS)
def Q48(p_b0:aB):Option ((List ByteArray)×aB):=Mo.den (awx p_b0)
theorem Xh(p_b0:aB):FH (Q48 p_b0) 225 [.ptr 0 0,.raw (.func (.func 226) #[] #[])] [bZ p_b0] (fun _=>.own 1) (fun r=>[bZ r.2,.row 9 1 (r.1.map lfS)]):=eP Tryz.func225
def adH(l0:List aY)(r0:Int×aB)(s6639:aB)(v0:Int):Mo (Bool):=
 .iG 16003 (decide ((v0:Int)<r0.1)) (.stop)<|
 .rt [0,1,5,6,7,38] 2 (false)
def adI(r0:Int×aB):(Int×aB×(List aY))→Mo ((Int×aB×(List aY))⊕(aB×(List aY))):=fun(v0,s6639,l0)=>
 .jk Tryz.f147 1 [1,1,1,1,1,0,1,0,0,0,0] 21 (fun r_=>⟨[(0,.ptr 0 0),(1,.raw (.func (.func 148) #[] #[])),(5,.i_ r0.1),(6,.own 1),(7,.i_ v0),(38,.b_ r_)],[bZ s6639,.row 149 2 (l0.map aY.lf)]⟩) ⟨[(0,.ptr 0 0),(1,.raw (.func (.func 148) #[] #[])),(5,.i_ r0.1),(6,.own 1),(7,.i_ v0)],[bZ s6639,.row 149 2 (l0.map aY.lf)]⟩ (adH l0 r0 s6639 v0) fun r1=>
 .iB (r1) (.stop)<|
 .rt [0,6] 2 (.inr (s6639,l0))
def auu(p_b0:aB):Mo ((List aY)×aB):=
 .cH [0] (iK p_b0) fun r0 _=>
 .jk Tryz.f147 1 [1,1,0,0] 11 (fun r_=>⟨[(0,.ptr 0 0),(1,.raw (.func (.func 148) #[] #[])),(5,.i_ r0.1),(18,.b_ r_)],[bZ r0.2]⟩) ⟨[(0,.ptr 0 0),(1,.raw (.func (.func 148) #[] #[])),(5,.i_ r0.1)],[bZ r0.2]⟩ (vH r0) fun r1=>
 .jk Tryz.f147 1 [1,1,0,1] 1 (fun r_=>⟨[(0,.ptr 0 0),(1,.raw (.func (.func 148) #[] #[])),(5,.i_ r0.1)],[bZ r_]⟩) ⟨[(0,.ptr 0 0),(1,.raw (.func (.func 148) #[] #[])),(5,.i_ r0.1),(18,.b_ r1)],[bZ r0.2]⟩ (vI r0 r1) fun r2=>
 .say [] (ok1 (by simp[aY.aX]:(([]:List aY).map aY.lf)=[]))<|
 .l1y [.uw 6 149 2,.mF 1 (([]:List aY).map aY.lf)] Tryz.f147 1 [1,1,1,1,1,0,1,0] 0 (.exit 0) (fun(v0,s6639,l0)=>⟨[(0,.ptr 0 0),(1,.raw (.func (.func 148) #[] #[])),(5,.i_ r0.1),(6,.own 1),(7,.i_ v0)],[bZ s6639,.row 149 2 (l0.map aY.lf)]⟩) (fun r_=>⟨[(0,.ptr 0 0),(6,.own 1)],[bZ r_.1,.row 149 2 (r_.2.map aY.lf)]⟩) (adI r0) (0,(aB.mk r2.iM r2.fat (IntKind.wrap .i64 (r2.fQ+1)) r2.dS),([]:List aY)) fun r3=>
 .ret ⟨[.mvn 1],[0],[(2,1)],2⟩ (r3.2,aB.mk r3.1.iM r3.1.fat (IntKind.wrap .i64 (r3.1.fQ-1)) r3.1.dS)
def axo(p_b0:aB):Option ((List aY)×aB):=Mo.den (auu p_b0)
theorem aqm(p_b0:aB):FH (axo p_b0) 147 [.ptr 0 0,.raw (.func (.func 148) #[] #[])] [bZ p_b0] (fun _=>.own 1) (fun r=>[bZ r.2,.row 149 2 (r.1.map aY.lf)]):=eP Tryz.func147
def adJ(l0:List ah)(r0:Int×aB)(s6771:aB)(v0:Int):Mo (Bool):=
 .iG 16003 (decide ((v0:Int)<r0.1)) (.stop)<|
 .rt [0,1,5,6,7,38] 2 (false)
def adK(r0:Int×aB):(Int×aB×(List ah))→Mo ((Int×aB×(List ah))⊕(aB×(List ah))):=fun(v0,s6771,l0)=>
 .jk Tryz.f224 1 [1,1,1,1,1,0,1,0,0,0,0] 21 (fun r_=>⟨[(0,.ptr 0 0),(1,.raw (.func (.func 87) #[] #[])),(5,.i_ r0.1),(6,.own 1),(7,.i_ v0),(38,.b_ r_)],[bZ s6771,.row 25 5 (l0.map ah.lf)]⟩) ⟨[(0,.ptr 0 0),(1,.raw (.func (.func 87) #[] #[])),(5,.i_ r0.1),(6,.own 1),(7,.i_ v0)],[bZ s6771,.row 25 5 (l0.map ah.lf)]⟩ (adJ l0 r0 s6771 v0) fun r1=>
 .iB (r1) (.stop)<|
 .rt [0,6] 2 (.inr (s6771,l0))
def auv(p_b0:aB):Mo ((List ah)×aB):=
 .cH [0] (iK p_b0) fun r0 _=>
 .jk Tryz.f224 1 [1,1,0,0] 11 (fun r_=>⟨[(0,.ptr 0 0),(1,.raw (.func (.func 87) #[] #[])),(5,.i_ r0.1),(18,.b_ r_)],[bZ r0.2]⟩) ⟨[(0,.ptr 0 0),(1,.raw (.func (.func 87) #[] #[])),(5,.i_ r0.1)],[bZ r0.2]⟩ (vH r0) fun r1=>
 .jk Tryz.f224 1 [1,1,0,1] 1 (fun r_=>⟨[(0,.ptr 0 0),(1,.raw (.func (.func 87) #[] #[])),(5,.i_ r0.1)],[bZ r_]⟩) ⟨[(0,.ptr 0 0),(1,.raw (.func (.func 87) #[] #[])),(5,.i_ r0.1),(18,.b_ r1)],[bZ r0.2]⟩ (vI r0 r1) fun r2=>
 .say [] (ok1 (by simp[ah.aX]:(([]:List ah).map ah.lf)=[]))<|
 .l1y [.uw 6 25 5,.mF 1 (([]:List ah).map ah.lf)] Tryz.f224 1 [1,1,1,1,1,0,1,0] 0 (.exit 0) (fun(v0,s6771,l0)=>⟨[(0,.ptr 0 0),(1,.raw (.func (.func 87) #[] #[])),(5,.i_ r0.1),(6,.own 1),(7,.i_ v0)],[bZ s6771,.row 25 5 (l0.map ah.lf)]⟩) (fun r_=>⟨[(0,.ptr 0 0),(6,.own 1)],[bZ r_.1,.row 25 5 (r_.2.map ah.lf)]⟩) (adK r0) (0,(aB.mk r2.iM r2.fat (IntKind.wrap .i64 (r2.fQ+1)) r2.dS),([]:List ah)) fun r3=>
 .ret ⟨[.mvn 1],[0],[(2,1)],2⟩ (r3.2,aB.mk r3.1.iM r3.1.fat (IntKind.wrap .i64 (r3.1.fQ-1)) r3.1.dS)
def axp(p_b0:aB):Option ((List ah)×aB):=Mo.den (auv p_b0)
theorem agi(p_b0:aB):FH (axp p_b0) 224 [.ptr 0 0,.raw (.func (.func 87) #[] #[])] [bZ p_b0] (fun _=>.own 1) (fun r=>[bZ r.2,.row 25 5 (r.1.map ah.lf)]):=eP Tryz.func224
def adL(l0:List bU)(r0:Int×aB)(s6897:aB)(v0:Int):Mo (Bool):=
 .iG 16003 (decide ((v0:Int)<r0.1)) (.stop)<|
 .rt [0,1,5,6,7,38] 2 (false)
def adM(r0:Int×aB):(Int×aB×(List bU))→Mo ((Int×aB×(List bU))⊕(aB×(List bU))):=fun(v0,s6897,l0)=>
 .jk Tryz.f230 1 [1,1,1,1,1,0,1,0,0,0,0] 21 (fun r_=>⟨[(0,.ptr 0 0),(1,.raw (.func (.func 231) #[] #[])),(5,.i_ r0.1),(6,.own 1),(7,.i_ v0),(38,.b_ r_)],[bZ s6897,.row 229 2 (l0.map bU.lf)]⟩) ⟨[(0,.ptr 0 0),(1,.raw (.func (.func 231) #[] #[])),(5,.i_ r0.1),(6,.own 1),(7,.i_ v0)],[bZ s6897,.row 229 2 (l0.map bU.lf)]⟩ (adL l0 r0 s6897 v0) fun r1=>
 .iB (r1) (.stop)<|
 .rt [0,6] 2 (.inr (s6897,l0))
def auw(p_b0:aB):Mo ((List bU)×aB):=
 .cH [0] (iK p_b0) fun r0 _=>
 .jk Tryz.f230 1 [1,1,0,0] 11 (fun r_=>⟨[(0,.ptr 0 0),(1,.raw (.func (.func 231) #[] #[])),(5,.i_ r0.1),(18,.b_ r_)],[bZ r0.2]⟩) ⟨[(0,.ptr 0 0),(1,.raw (.func (.func 231) #[] #[])),(5,.i_ r0.1)],[bZ r0.2]⟩ (vH r0) fun r1=>
 .jk Tryz.f230 1 [1,1,0,1] 1 (fun r_=>⟨[(0,.ptr 0 0),(1,.raw (.func (.func 231) #[] #[])),(5,.i_ r0.1)],[bZ r_]⟩) ⟨[(0,.ptr 0 0),(1,.raw (.func (.func 231) #[] #[])),(5,.i_ r0.1),(18,.b_ r1)],[bZ r0.2]⟩ (vI r0 r1) fun r2=>
 .say [] (ok1 (by simp[bU.aX]:(([]:List bU).map bU.lf)=[]))<|
 .l1y [.uw 6 229 2,.mF 1 (([]:List bU).map bU.lf)] Tryz.f230 1 [1,1,1,1,1,0,1,0] 0 (.exit 0) (fun(v0,s6897,l0)=>⟨[(0,.ptr 0 0),(1,.raw (.func (.func 231) #[] #[])),(5,.i_ r0.1),(6,.own 1),(7,.i_ v0)],[bZ s6897,.row 229 2 (l0.map bU.lf)]⟩) (fun r_=>⟨[(0,.ptr 0 0),(6,.own 1)],[bZ r_.1,.row 229 2 (r_.2.map bU.lf)]⟩) (adM r0) (0,(aB.mk r2.iM r2.fat (IntKind.wrap .i64 (r2.fQ+1)) r2.dS),([]:List bU)) fun r3=>
 .ret ⟨[.mvn 1],[0],[(2,1)],2⟩ (r3.2,aB.mk r3.1.iM r3.1.fat (IntKind.wrap .i64 (r3.1.fQ-1)) r3.1.dS)
def axq(p_b0:aB):Option ((List bU)×aB):=Mo.den (auw p_b0)
theorem aqn(p_b0:aB):FH (axq p_b0) 230 [.ptr 0 0,.raw (.func (.func 231) #[] #[])] [bZ p_b0] (fun _=>.own 1) (fun r=>[bZ r.2,.row 229 2 (r.1.map bU.lf)]):=eP Tryz.func230
abbrev Xi(m:aB→Option (aQ×aB)):Prop:=∀p_b0,FH (m p_b0) 232 [.ptr 0 0] [bZ p_b0] (fun r=>.dat (aQ.lf1 r.1)) (fun r=>[bZ r.2])
abbrev agj(m:aB→Option ((List aQ)×aB)):Prop:=∀p_b0,FH (m p_b0) 289 [.ptr 0 0,.raw (.func (.func 232) #[] #[])] [bZ p_b0] (fun r=>.lf (.rows 11 (r.1.map aQ.lf))) (fun r=>[bZ r.2])
structure Xj where
 m1:(p_b0:aB)→Option (aQ×aB)
 ok1:Xi m1
 m2:(p_b0:aB)→Option ((List aQ)×aB)
 ok2:agj m2
def alD(R_:Xj)(p_b0:aB):Mo (aQ×aB):=
 .cH [0] (iK p_b0) fun r0 _=>
 .cH [0] (Xh r0.2) fun r1 _=>
 .cH [0] (wY r1.2) fun r2 _=>
 .cH [0] (Xh r2.2) fun r3 _=>
 .cH [0] (wZ r3.2) fun r4 _=>
 .cH [0] (iK r4.2) fun r5 _=>
 .cH [0] (R_.ok2 r5.2) fun r6 _=>
 .ret ⟨[.frz 2,.frz 3,.tod 0,.kill 1],[0],[],1⟩ (aQ.mk r0.1 r1.1 r2.1 r3.1 r4.1 r5.1 r6.1,r6.2)
theorem alE(R_:Xj):Xi fun p_b0=>Mo.den (alD R_ p_b0):=fun _=>eP Tryz.func232
def aif(R_:Xj)(r0:Int×aB):Mo (Bool):=
 .iG 6002 (decide ((r0.1:Int)<0)) (.stop)<|
 .rt [0,1,5,18] 1 (decide ((64:Int)≤r0.2.fQ))
def aii(R_:Xj)(r0:Int×aB)(r1:Bool):Mo (aB):=
 .iB (r1) (.stop)<|
 .rt [0,1,5] 1 (r0.2)
def adN(R_:Xj)(l0:List aQ)(r0:Int×aB)(s7037:aB)(v0:Int):Mo (Bool):=
 .iG 16003 (decide ((v0:Int)<r0.1)) (.stop)<|
 .rt [0,1,5,6,7,38] 2 (false)
def adO(R_:Xj)(r0:Int×aB):(Int×aB×(List aQ))→Mo ((Int×aB×(List aQ))⊕(aB×(List aQ))):=fun(v0,s7037,l0)=>
 .jk Tryz.f289 1 [1,1,1,1,1,0,1,0,0,0,0] 21 (fun r_=>⟨[(0,.ptr 0 0),(1,.raw (.func (.func 232) #[] #[])),(5,.i_ r0.1),(6,.own 1),(7,.i_ v0),(38,.b_ r_)],[bZ s7037,.row 40 11 (l0.map aQ.lf)]⟩) ⟨[(0,.ptr 0 0),(1,.raw (.func (.func 232) #[] #[])),(5,.i_ r0.1),(6,.own 1),(7,.i_ v0)],[bZ s7037,.row 40 11 (l0.map aQ.lf)]⟩ (adN R_ l0 r0 s7037 v0) fun r1=>
 .iB (r1) (.stop)<|
 .rt [0,6] 2 (.inr (s7037,l0))
def alF(R_:Xj)(p_b0:aB):Mo ((List aQ)×aB):=
 .cH [0] (iK p_b0) fun r0 _=>
 .jk Tryz.f289 1 [1,1,0,0] 11 (fun r_=>⟨[(0,.ptr 0 0),(1,.raw (.func (.func 232) #[] #[])),(5,.i_ r0.1),(18,.b_ r_)],[bZ r0.2]⟩) ⟨[(0,.ptr 0 0),(1,.raw (.func (.func 232) #[] #[])),(5,.i_ r0.1)],[bZ r0.2]⟩ (aif R_ r0) fun r1=>
 .jk Tryz.f289 1 [1,1,0,1] 1 (fun r_=>⟨[(0,.ptr 0 0),(1,.raw (.func (.func 232) #[] #[])),(5,.i_ r0.1)],[bZ r_]⟩) ⟨[(0,.ptr 0 0),(1,.raw (.func (.func 232) #[] #[])),(5,.i_ r0.1),(18,.b_ r1)],[bZ r0.2]⟩ (aii R_ r0 r1) fun r2=>
 .say [] (ok1 (by simp[aQ.aX]:(([]:List aQ).map aQ.lf)=[]))<|
 .l1y [.uw 6 40 11,.mF 1 (([]:List aQ).map aQ.lf)] Tryz.f289 1 [1,1,1,1,1,0,1,0] 0 (.exit 0) (fun(v0,s7037,l0)=>⟨[(0,.ptr 0 0),(1,.raw (.func (.func 232) #[] #[])),(5,.i_ r0.1),(6,.own 1),(7,.i_ v0)],[bZ s7037,.row 40 11 (l0.map aQ.lf)]⟩) (fun r_=>⟨[(0,.ptr 0 0),(6,.own 1)],[bZ r_.1,.row 40 11 (r_.2.map aQ.lf)]⟩) (adO R_ r0) (0,(aB.mk r2.iM r2.fat (IntKind.wrap .i64 (r2.fQ+1)) r2.dS),([]:List aQ)) fun r3=>
 .ret ⟨[.frz 1],[0],[],1⟩ (r3.2,aB.mk r3.1.iM r3.1.fat (IntKind.wrap .i64 (r3.1.fQ-1)) r3.1.dS)
theorem alG(R_:Xj):agj fun p_b0=>Mo.den (alF R_ p_b0):=fun _=>eP Tryz.func289
def HY:Nat→Xj
 |0=>{ m1:=fun p_b0=>none,ok1:=fun _ _ h=>(by cases h),m2:=fun p_b0=>none,ok2:=fun _ _ h=>(by cases h) }
 |n_+1=>{ m1:=fun p_b0=>Mo.den (alD (HY n_) p_b0),ok1:=alE (HY n_),m2:=fun p_b0=>Mo.den (alF (HY n_) p_b0),ok2:=alG (HY n_) }
def axr(p_b0:aB):Option (aQ×aB):=(HY FU).m1 p_b0
theorem aqo:Xi axr:=(HY FU).ok1
abbrev Xk(m:aB→Option (aO×aB)):Prop:=∀p_b0,FH (m p_b0) 149 [.ptr 0 0] [bZ p_b0] (fun r=>.dat (aO.lf1 r.1)) (fun r=>[bZ r.2])
abbrev agk(m:aB→Option ((List aO)×aB)):Prop:=∀p_b0,FH (m p_b0) 233 [.ptr 0 0,.raw (.func (.func 149) #[] #[])] [bZ p_b0] (fun r=>.lf (.rows 25 (r.1.map aO.lf))) (fun r=>[bZ r.2])
structure Xl where
 m1:(p_b0:aB)→Option (aO×aB)
 ok1:Xk m1
 m2:(p_b0:aB)→Option ((List aO)×aB)
 ok2:agk m2
def alH(R_:Xl)(p_b0:aB):Mo (aO×aB):=
 .cH [0] (iK p_b0) fun r0 _=>
 .cH [0] (Xh r0.2) fun r1 _=>
 .cH [0] (wZ r1.2) fun r2 _=>
 .cH [0] (agi r2.2) fun r3 _=>
 .cH [0] (iK r3.2) fun r4 _=>
 .cH [0] (iK r4.2) fun r5 _=>
 .cH [0] (iK r5.2) fun r6 _=>
 .cH [0] (aqn r6.2) fun r7 _=>
 .cH [0] (iK r7.2) fun r8 _=>
 .cH [0] (aqo r8.2) fun r9 _=>
 .cH [0] (R_.ok2 r9.2) fun r10 _=>
 .ret ⟨[.frz 2,.frz 3,.frz 4,.tod 0,.kill 1],[0],[],1⟩ (aO.mk r0.1 r1.1 r2.1 r3.1 r4.1 r5.1 (dL.mk r6.1 r7.1 r8.1) r9.1 r10.1,r10.2)
theorem alI(R_:Xl):Xk fun p_b0=>Mo.den (alH R_ p_b0):=fun _=>eP Tryz.func149
def aij(R_:Xl)(r0:Int×aB):Mo (Bool):=
 .iG 6002 (decide ((r0.1:Int)<0)) (.stop)<|
 .rt [0,1,5,18] 1 (decide ((64:Int)≤r0.2.fQ))
def aik(R_:Xl)(r0:Int×aB)(r1:Bool):Mo (aB):=
 .iB (r1) (.stop)<|
 .rt [0,1,5] 1 (r0.2)
def adP(R_:Xl)(l0:List aO)(r0:Int×aB)(s7149:aB)(v0:Int):Mo (Bool):=
 .iG 16003 (decide ((v0:Int)<r0.1)) (.stop)<|
 .rt [0,1,5,6,7,38] 2 (false)
def adQ(R_:Xl)(r0:Int×aB):(Int×aB×(List aO))→Mo ((Int×aB×(List aO))⊕(aB×(List aO))):=fun(v0,s7149,l0)=>
 .jk Tryz.f233 1 [1,1,1,1,1,0,1,0,0,0,0] 21 (fun r_=>⟨[(0,.ptr 0 0),(1,.raw (.func (.func 149) #[] #[])),(5,.i_ r0.1),(6,.own 1),(7,.i_ v0),(38,.b_ r_)],[bZ s7149,.row 43 25 (l0.map aO.lf)]⟩) ⟨[(0,.ptr 0 0),(1,.raw (.func (.func 149) #[] #[])),(5,.i_ r0.1),(6,.own 1),(7,.i_ v0)],[bZ s7149,.row 43 25 (l0.map aO.lf)]⟩ (adP R_ l0 r0 s7149 v0) fun r1=>
 .iB (r1) (.stop)<|
 .rt [0,6] 2 (.inr (s7149,l0))
def alJ(R_:Xl)(p_b0:aB):Mo ((List aO)×aB):=
 .cH [0] (iK p_b0) fun r0 _=>
 .jk Tryz.f233 1 [1,1,0,0] 11 (fun r_=>⟨[(0,.ptr 0 0),(1,.raw (.func (.func 149) #[] #[])),(5,.i_ r0.1),(18,.b_ r_)],[bZ r0.2]⟩) ⟨[(0,.ptr 0 0),(1,.raw (.func (.func 149) #[] #[])),(5,.i_ r0.1)],[bZ r0.2]⟩ (aij R_ r0) fun r1=>
 .jk Tryz.f233 1 [1,1,0,1] 1 (fun r_=>⟨[(0,.ptr 0 0),(1,.raw (.func (.func 149) #[] #[])),(5,.i_ r0.1)],[bZ r_]⟩) ⟨[(0,.ptr 0 0),(1,.raw (.func (.func 149) #[] #[])),(5,.i_ r0.1),(18,.b_ r1)],[bZ r0.2]⟩ (aik R_ r0 r1) fun r2=>
 .say [] (ok1 (by simp[aO.aX]:(([]:List aO).map aO.lf)=[]))<|
 .l1y [.uw 6 43 25,.mF 1 (([]:List aO).map aO.lf)] Tryz.f233 1 [1,1,1,1,1,0,1,0] 0 (.exit 0) (fun(v0,s7149,l0)=>⟨[(0,.ptr 0 0),(1,.raw (.func (.func 149) #[] #[])),(5,.i_ r0.1),(6,.own 1),(7,.i_ v0)],[bZ s7149,.row 43 25 (l0.map aO.lf)]⟩) (fun r_=>⟨[(0,.ptr 0 0),(6,.own 1)],[bZ r_.1,.row 43 25 (r_.2.map aO.lf)]⟩) (adQ R_ r0) (0,(aB.mk r2.iM r2.fat (IntKind.wrap .i64 (r2.fQ+1)) r2.dS),([]:List aO)) fun r3=>
 .ret ⟨[.frz 1],[0],[],1⟩ (r3.2,aB.mk r3.1.iM r3.1.fat (IntKind.wrap .i64 (r3.1.fQ-1)) r3.1.dS)
theorem alK(R_:Xl):agk fun p_b0=>Mo.den (alJ R_ p_b0):=fun _=>eP Tryz.func233
def H6:Nat→Xl
 |0=>{ m1:=fun p_b0=>none,ok1:=fun _ _ h=>(by cases h),m2:=fun p_b0=>none,ok2:=fun _ _ h=>(by cases h) }
 |n_+1=>{ m1:=fun p_b0=>Mo.den (alH (H6 n_) p_b0),ok1:=alI (H6 n_),m2:=fun p_b0=>Mo.den (alJ (H6 n_) p_b0),ok2:=alK (H6 n_) }
def axt(p_b0:aB):Option (aO×aB):=(H6 FU).m1 p_b0
theorem aqp:Xk axt:=(H6 FU).ok1
def auy(p_b0:aB):Mo (aS×aB):=
 .cH [0] (wY p_b0) fun r0 _=>
 .cH [0] (iK r0.2) fun r1 _=>
 .cH [0] (aqm r1.2) fun r2 _=>
 .cH [0] (qY r2.2) fun r3 _=>
 .cH [0] (qY r3.2) fun r4 _=>
 .cH [0] (qY r4.2) fun r5 _=>
 .cH [0] (aqp r5.2) fun r6 _=>
 .ret ⟨[.kill 1,.mvn 2],[0],[(3,1)],2⟩ (aS.mk r0.1 r1.1 r2.1 r3.1 r4.1 r5.1 r6.1,r6.2)
def axu(p_b0:aB):Option (aS×aB):=Mo.den (auy p_b0)
theorem aqr(p_b0:aB):FH (axu p_b0) 89 [.ptr 0 0] [bZ p_b0] (fun r=>ahK (.agg ((aS.lf1 r.1).map AV.lf)) [(2,.own 1)]) (fun r=>[bZ r.2,.row 149 2 (r.1.fA.map aY.lf)]):=eP Tryz.func89
def adR(l0:List aS)(r0:Int×aB)(s7236:aB)(v0:Int):Mo (Bool):=
 .iG 16003 (decide ((v0:Int)<r0.1)) (.stop)<|
 .rt [0,1,5,6,7,38] 2 (false)
def adS(r0:Int×aB):(Int×aB×(List aS))→Mo ((Int×aB×(List aS))⊕(aB×(List aS))):=fun(v0,s7236,l0)=>
 .jk Tryz.f145 1 [1,1,1,1,1,0,1,0,0,0,0] 21 (fun r_=>⟨[(0,.ptr 0 0),(1,.raw (.func (.func 89) #[] #[])),(5,.i_ r0.1),(6,.own 1),(7,.i_ v0),(38,.b_ r_)],[bZ s7236,.row 45 31 (l0.map aS.lf)]⟩) ⟨[(0,.ptr 0 0),(1,.raw (.func (.func 89) #[] #[])),(5,.i_ r0.1),(6,.own 1),(7,.i_ v0)],[bZ s7236,.row 45 31 (l0.map aS.lf)]⟩ (adR l0 r0 s7236 v0) fun r1=>
 .iB (r1) (.stop)<|
 .rt [0,6] 2 (.inr (s7236,l0))
def auz(p_b0:aB):Mo ((List aS)×aB):=
 .cH [0] (iK p_b0) fun r0 _=>
 .jk Tryz.f145 1 [1,1,0,0] 11 (fun r_=>⟨[(0,.ptr 0 0),(1,.raw (.func (.func 89) #[] #[])),(5,.i_ r0.1),(18,.b_ r_)],[bZ r0.2]⟩) ⟨[(0,.ptr 0 0),(1,.raw (.func (.func 89) #[] #[])),(5,.i_ r0.1)],[bZ r0.2]⟩ (vH r0) fun r1=>
 .jk Tryz.f145 1 [1,1,0,1] 1 (fun r_=>⟨[(0,.ptr 0 0),(1,.raw (.func (.func 89) #[] #[])),(5,.i_ r0.1)],[bZ r_]⟩) ⟨[(0,.ptr 0 0),(1,.raw (.func (.func 89) #[] #[])),(5,.i_ r0.1),(18,.b_ r1)],[bZ r0.2]⟩ (vI r0 r1) fun r2=>
 .say [] (ok1 (by simp[aS.aX]:(([]:List aS).map aS.lf)=[]))<|
 .l1y [.uw 6 45 31,.mF 1 (([]:List aS).map aS.lf)] Tryz.f145 1 [1,1,1,1,1,0,1,0] 0 (.exit 0) (fun(v0,s7236,l0)=>⟨[(0,.ptr 0 0),(1,.raw (.func (.func 89) #[] #[])),(5,.i_ r0.1),(6,.own 1),(7,.i_ v0)],[bZ s7236,.row 45 31 (l0.map aS.lf)]⟩) (fun r_=>⟨[(0,.ptr 0 0),(6,.own 1)],[bZ r_.1,.row 45 31 (r_.2.map aS.lf)]⟩) (adS r0) (0,(aB.mk r2.iM r2.fat (IntKind.wrap .i64 (r2.fQ+1)) r2.dS),([]:List aS)) fun r3=>
 .ret ⟨[.mvn 1],[0],[(2,1)],2⟩ (r3.2,aB.mk r3.1.iM r3.1.fat (IntKind.wrap .i64 (r3.1.fQ-1)) r3.1.dS)
def axv(p_b0:aB):Option ((List aS)×aB):=Mo.den (auz p_b0)
theorem aqs(p_b0:aB):FH (axv p_b0) 145 [.ptr 0 0,.raw (.func (.func 89) #[] #[])] [bZ p_b0] (fun _=>.own 1) (fun r=>[bZ r.2,.row 45 31 (r.1.map aS.lf)]):=eP Tryz.func145
abbrev Xm(m:aB→Option (aI×aB)):Prop:=∀p_b0,FH (m p_b0) 146 [.ptr 0 0] [bZ p_b0] (fun r=>.dat (aI.lf1 r.1)) (fun r=>[bZ r.2])
abbrev agl(m:aB→Option ((List bH)×aB)):Prop:=∀p_b0,FH (m p_b0) 227 [.ptr 0 0,.raw (.func (.func 228) #[] #[])] [bZ p_b0] (fun r=>.lf (.rows 22 (r.1.map bH.lf))) (fun r=>[bZ r.2])
abbrev agm(m:aB→Option ((List aI)×aB)):Prop:=∀p_b0,FH (m p_b0) 229 [.ptr 0 0,.raw (.func (.func 146) #[] #[])] [bZ p_b0] (fun r=>.lf (.rows 21 (r.1.map aI.lf))) (fun r=>[bZ r.2])
abbrev agn(m:aB→Option (bH×aB)):Prop:=∀p_b0,FH (m p_b0) 228 [.ptr 0 0] [bZ p_b0] (fun r=>.dat (bH.lf1 r.1)) (fun r=>[bZ r.2])
structure C9 where
 m1:(p_b0:aB)→Option (aI×aB)
 ok1:Xm m1
 m2:(p_b0:aB)→Option ((List bH)×aB)
 ok2:agl m2
 m3:(p_b0:aB)→Option ((List aI)×aB)
 ok3:agm m3
 m4:(p_b0:aB)→Option (bH×aB)
 ok4:agn m4
def alL(R_:C9)(p_b0:aB):Mo (aI×aB):=
 .cH [0] (iK p_b0) fun r0 _=>
 .cH [0] (qY r0.2) fun r1 _=>
 .cH [0] (wZ r1.2) fun r2 _=>
 .cH [0] (qY r2.2) fun r3 _=>
 .cH [0] (wZ r3.2) fun r4 _=>
 .cH [0] (agi r4.2) fun r5 _=>
 .cH [0] (iK r5.2) fun r6 _=>
 .cH [0] (iK r6.2) fun r7 _=>
 .cH [0] (Xh r7.2) fun r8 _=>
 .cH [0] (R_.ok2 r8.2) fun r9 _=>
 .cH [0] (qY r9.2) fun r10 _=>
 .cH [0] (R_.ok3 r10.2) fun r11 _=>
 .cH [0] (qY r11.2) fun r12 _=>
 .ret ⟨[.frz 2,.frz 3,.tod 0,.kill 1],[0],[],1⟩ (aI.mk r0.1 r1.1 r2.1 r3.1 r4.1 r5.1 r6.1 r7.1 r8.1 r9.1 r10.1 r11.1 r12.1,r12.2)
theorem alM(R_:C9):Xm fun p_b0=>Mo.den (alL R_ p_b0):=fun _=>eP Tryz.func146
def Z5(R_:C9)(r0:Int×aB):Mo (Bool):=
 .iG 6002 (decide ((r0.1:Int)<0)) (.stop)<|
 .rt [0,1,5,18] 1 (decide ((64:Int)≤r0.2.fQ))
def Z7(R_:C9)(r0:Int×aB)(r1:Bool):Mo (aB):=
 .iB (r1) (.stop)<|
 .rt [0,1,5] 1 (r0.2)
def ail(R_:C9)(l0:List bH)(r0:Int×aB)(s7396:aB)(v0:Int):Mo (Bool):=
 .iG 16003 (decide ((v0:Int)<r0.1)) (.stop)<|
 .rt [0,1,5,6,7,38] 2 (false)
def ain(R_:C9)(r0:Int×aB):(Int×aB×(List bH))→Mo ((Int×aB×(List bH))⊕(aB×(List bH))):=fun(v0,s7396,l0)=>
 .jk Tryz.f227 1 [1,1,1,1,1,0,1,0,0,0,0] 21 (fun r_=>⟨[(0,.ptr 0 0),(1,.raw (.func (.func 228) #[] #[])),(5,.i_ r0.1),(6,.own 1),(7,.i_ v0),(38,.b_ r_)],[bZ s7396,.row 224 22 (l0.map bH.lf)]⟩) ⟨[(0,.ptr 0 0),(1,.raw (.func (.func 228) #[] #[])),(5,.i_ r0.1),(6,.own 1),(7,.i_ v0)],[bZ s7396,.row 224 22 (l0.map bH.lf)]⟩ (ail R_ l0 r0 s7396 v0) fun r1=>
 .iB (r1) (.stop)<|
 .rt [0,6] 2 (.inr (s7396,l0))
def ar8(R_:C9)(p_b0:aB):Mo ((List bH)×aB):=
 .cH [0] (iK p_b0) fun r0 _=>
 .jk Tryz.f227 1 [1,1,0,0] 11 (fun r_=>⟨[(0,.ptr 0 0),(1,.raw (.func (.func 228) #[] #[])),(5,.i_ r0.1),(18,.b_ r_)],[bZ r0.2]⟩) ⟨[(0,.ptr 0 0),(1,.raw (.func (.func 228) #[] #[])),(5,.i_ r0.1)],[bZ r0.2]⟩ (Z5 R_ r0) fun r1=>
 .jk Tryz.f227 1 [1,1,0,1] 1 (fun r_=>⟨[(0,.ptr 0 0),(1,.raw (.func (.func 228) #[] #[])),(5,.i_ r0.1)],[bZ r_]⟩) ⟨[(0,.ptr 0 0),(1,.raw (.func (.func 228) #[] #[])),(5,.i_ r0.1),(18,.b_ r1)],[bZ r0.2]⟩ (Z7 R_ r0 r1) fun r2=>
 .say [] (ok1 (by simp[bH.aX]:(([]:List bH).map bH.lf)=[]))<|
 .l1y [.uw 6 224 22,.mF 1 (([]:List bH).map bH.lf)] Tryz.f227 1 [1,1,1,1,1,0,1,0] 0 (.exit 0) (fun(v0,s7396,l0)=>⟨[(0,.ptr 0 0),(1,.raw (.func (.func 228) #[] #[])),(5,.i_ r0.1),(6,.own 1),(7,.i_ v0)],[bZ s7396,.row 224 22 (l0.map bH.lf)]⟩) (fun r_=>⟨[(0,.ptr 0 0),(6,.own 1)],[bZ r_.1,.row 224 22 (r_.2.map bH.lf)]⟩) (ain R_ r0) (0,(aB.mk r2.iM r2.fat (IntKind.wrap .i64 (r2.fQ+1)) r2.dS),([]:List bH)) fun r3=>
 .ret ⟨[.frz 1],[0],[],1⟩ (r3.2,aB.mk r3.1.iM r3.1.fat (IntKind.wrap .i64 (r3.1.fQ-1)) r3.1.dS)
theorem aqt(R_:C9):agl fun p_b0=>Mo.den (ar8 R_ p_b0):=fun _=>eP Tryz.func227
def adT(R_:C9)(l0:List aI)(r0:Int×aB)(s7500:aB)(v0:Int):Mo (Bool):=
 .iG 16003 (decide ((v0:Int)<r0.1)) (.stop)<|
 .rt [0,1,5,6,7,38] 2 (false)
def adU(R_:C9)(r0:Int×aB):(Int×aB×(List aI))→Mo ((Int×aB×(List aI))⊕(aB×(List aI))):=fun(v0,s7500,l0)=>
 .jk Tryz.f229 1 [1,1,1,1,1,0,1,0,0,0,0] 21 (fun r_=>⟨[(0,.ptr 0 0),(1,.raw (.func (.func 146) #[] #[])),(5,.i_ r0.1),(6,.own 1),(7,.i_ v0),(38,.b_ r_)],[bZ s7500,.row 31 21 (l0.map aI.lf)]⟩) ⟨[(0,.ptr 0 0),(1,.raw (.func (.func 146) #[] #[])),(5,.i_ r0.1),(6,.own 1),(7,.i_ v0)],[bZ s7500,.row 31 21 (l0.map aI.lf)]⟩ (adT R_ l0 r0 s7500 v0) fun r1=>
 .iB (r1) (.stop)<|
 .rt [0,6] 2 (.inr (s7500,l0))
def alN(R_:C9)(p_b0:aB):Mo ((List aI)×aB):=
 .cH [0] (iK p_b0) fun r0 _=>
 .jk Tryz.f229 1 [1,1,0,0] 11 (fun r_=>⟨[(0,.ptr 0 0),(1,.raw (.func (.func 146) #[] #[])),(5,.i_ r0.1),(18,.b_ r_)],[bZ r0.2]⟩) ⟨[(0,.ptr 0 0),(1,.raw (.func (.func 146) #[] #[])),(5,.i_ r0.1)],[bZ r0.2]⟩ (Z5 R_ r0) fun r1=>
 .jk Tryz.f229 1 [1,1,0,1] 1 (fun r_=>⟨[(0,.ptr 0 0),(1,.raw (.func (.func 146) #[] #[])),(5,.i_ r0.1)],[bZ r_]⟩) ⟨[(0,.ptr 0 0),(1,.raw (.func (.func 146) #[] #[])),(5,.i_ r0.1),(18,.b_ r1)],[bZ r0.2]⟩ (Z7 R_ r0 r1) fun r2=>
 .say [] (ok1 (by simp[aI.aX]:(([]:List aI).map aI.lf)=[]))<|
 .l1y [.uw 6 31 21,.mF 1 (([]:List aI).map aI.lf)] Tryz.f229 1 [1,1,1,1,1,0,1,0] 0 (.exit 0) (fun(v0,s7500,l0)=>⟨[(0,.ptr 0 0),(1,.raw (.func (.func 146) #[] #[])),(5,.i_ r0.1),(6,.own 1),(7,.i_ v0)],[bZ s7500,.row 31 21 (l0.map aI.lf)]⟩) (fun r_=>⟨[(0,.ptr 0 0),(6,.own 1)],[bZ r_.1,.row 31 21 (r_.2.map aI.lf)]⟩) (adU R_ r0) (0,(aB.mk r2.iM r2.fat (IntKind.wrap .i64 (r2.fQ+1)) r2.dS),([]:List aI)) fun r3=>
 .ret ⟨[.frz 1],[0],[],1⟩ (r3.2,aB.mk r3.1.iM r3.1.fat (IntKind.wrap .i64 (r3.1.fQ-1)) r3.1.dS)
theorem alO(R_:C9):agm fun p_b0=>Mo.den (alN R_ p_b0):=fun _=>eP Tryz.func229
def alP(R_:C9)(p_b0:aB):Mo (bH×aB):=
 .cH [0] (wY p_b0) fun r0 _=>
 .cH [0] (R_.ok1 r0.2) fun r1 _=>
 .ret ⟨[.kill 1],[0],[],1⟩ (bH.mk r0.1 r1.1,r1.2)
theorem alQ(R_:C9):agn fun p_b0=>Mo.den (alP R_ p_b0):=fun _=>eP Tryz.func228
def uK:Nat→C9
 |0=>{ m1:=fun p_b0=>none,ok1:=fun _ _ h=>(by cases h),m2:=fun p_b0=>none,ok2:=fun _ _ h=>(by cases h),m3:=fun p_b0=>none,ok3:=fun _ _ h=>(by cases h),m4:=fun p_b0=>none,ok4:=fun _ _ h=>(by cases h) }
 |n_+1=>{ m1:=fun p_b0=>Mo.den (alL (uK n_) p_b0),ok1:=alM (uK n_),m2:=fun p_b0=>Mo.den (ar8 (uK n_) p_b0),ok2:=aqt (uK n_),m3:=fun p_b0=>Mo.den (alN (uK n_) p_b0),ok3:=alO (uK n_),m4:=fun p_b0=>Mo.den (alP (uK n_) p_b0),ok4:=alQ (uK n_) }
def axw(p_b0:aB):Option (aI×aB):=(uK FU).m1 p_b0
theorem aqu:Xm axw:=(uK FU).ok1
def auA(p_b0:aB):Mo (bW×aB):=
 .cH [0] (wY p_b0) fun r0 _=>
 .cH [0] (aqs r0.2) fun r1 _=>
 .cH [0] (aqu r1.2) fun r2 _=>
 .cH [0] (iK r2.2) fun r3 _=>
 .cH [0] (iK r3.2) fun r4 _=>
 .ret ⟨[.kill 1,.mvn 2],[0],[(3,1)],2⟩ (bW.mk r0.1 r1.1 r2.1 r3.1 r4.1,r4.2)
def axx(p_b0:aB):Option (bW×aB):=Mo.den (auA p_b0)
theorem aqv(p_b0:aB):FH (axx p_b0) 88 [.ptr 0 0] [bZ p_b0] (fun r=>ahK (.agg ((bW.lf1 r.1).map AV.lf)) [(1,.own 1)]) (fun r=>[bZ r.2,.row 45 31 (r.1.bJ.map aS.lf)]):=eP Tryz.func88
def adV(l0:List Int)(r0:Int×aB)(s7646:aB)(v0:Int):Mo (Bool):=
 .iG 16003 (decide ((v0:Int)<r0.1)) (.stop)<|
 .rt [0,1,5,6,7,38] 2 (false)
def adW(r0:Int×aB):(Int×aB×(List Int))→Mo ((Int×aB×(List Int))⊕(aB×(List Int))):=fun(v0,s7646,l0)=>
 .jk Tryz.f91 1 [1,1,1,1,1,0,1,0,0,0,0] 21 (fun r_=>⟨[(0,.ptr 0 0),(1,.raw (.func (.func 92) #[] #[])),(5,.i_ r0.1),(6,.own 1),(7,.i_ v0),(38,.b_ r_)],[bZ s7646,.row 3 1 (l0.map lfI)]⟩) ⟨[(0,.ptr 0 0),(1,.raw (.func (.func 92) #[] #[])),(5,.i_ r0.1),(6,.own 1),(7,.i_ v0)],[bZ s7646,.row 3 1 (l0.map lfI)]⟩ (adV l0 r0 s7646 v0) fun r1=>
 .iB (r1) (.stop)<|
 .rt [0,6] 2 (.inr (s7646,l0))
def auB(p_b0:aB):Mo ((List Int)×aB):=
 .cH [0] (iK p_b0) fun r0 _=>
 .jk Tryz.f91 1 [1,1,0,0] 11 (fun r_=>⟨[(0,.ptr 0 0),(1,.raw (.func (.func 92) #[] #[])),(5,.i_ r0.1),(18,.b_ r_)],[bZ r0.2]⟩) ⟨[(0,.ptr 0 0),(1,.raw (.func (.func 92) #[] #[])),(5,.i_ r0.1)],[bZ r0.2]⟩ (vH r0) fun r1=>
 .jk Tryz.f91 1 [1,1,0,1] 1 (fun r_=>⟨[(0,.ptr 0 0),(1,.raw (.func (.func 92) #[] #[])),(5,.i_ r0.1)],[bZ r_]⟩) ⟨[(0,.ptr 0 0),(1,.raw (.func (.func 92) #[] #[])),(5,.i_ r0.1),(18,.b_ r1)],[bZ r0.2]⟩ (vI r0 r1) fun r2=>
 .say [] (ok1 (by simp[lfI,lfK]:(([]:List Int).map lfI)=[]))<|
 .l1y [.uw 6 3 1,.mF 1 (([]:List Int).map lfI)] Tryz.f91 1 [1,1,1,1,1,0,1,0] 0 (.exit 0) (fun(v0,s7646,l0)=>⟨[(0,.ptr 0 0),(1,.raw (.func (.func 92) #[] #[])),(5,.i_ r0.1),(6,.own 1),(7,.i_ v0)],[bZ s7646,.row 3 1 (l0.map lfI)]⟩) (fun r_=>⟨[(0,.ptr 0 0),(6,.own 1)],[bZ r_.1,.row 3 1 (r_.2.map lfI)]⟩) (adW r0) (0,(aB.mk r2.iM r2.fat (IntKind.wrap .i64 (r2.fQ+1)) r2.dS),([]:List Int)) fun r3=>
 .ret ⟨[.mvn 1],[0],[(2,1)],2⟩ (r3.2,aB.mk r3.1.iM r3.1.fat (IntKind.wrap .i64 (r3.1.fQ-1)) r3.1.dS)
def axy(p_b0:aB):Option ((List Int)×aB):=Mo.den (auB p_b0)
theorem aqw(p_b0:aB):FH (axy p_b0) 91 [.ptr 0 0,.raw (.func (.func 92) #[] #[])] [bZ p_b0] (fun _=>.own 1) (fun r=>[bZ r.2,.row 3 1 (r.1.map lfI)]):=eP Tryz.func91
abbrev Xn(m:aB→Option (aG×aB)):Prop:=∀p_b0,FH (m p_b0) 40 [.ptr 0 0] [bZ p_b0] (fun r=>.dat (aG.lf1 r.1)) (fun r=>[bZ r.2])
abbrev agp(m:aB→Option ((List aG)×aB)):Prop:=∀p_b0,FH (m p_b0) 90 [.ptr 0 0,.raw (.func (.func 40) #[] #[])] [bZ p_b0] (fun r=>.lf (.rows 78 (r.1.map aG.lf))) (fun r=>[bZ r.2])
structure Xo where
 m1:(p_b0:aB)→Option (aG×aB)
 ok1:Xn m1
 m2:(p_b0:aB)→Option ((List aG)×aB)
 ok2:agp m2
def alR(R_:Xo)(p_b0:aB):Mo (aG×aB):=
 .cH [0] (iK p_b0) fun r0 _=>
 .cH [0] (wY r0.2) fun r1 _=>
 .cH [0] (wZ r1.2) fun r2 _=>
 .cH [0] (wZ r2.2) fun r3 _=>
 .cH [0] (wZ r3.2) fun r4 _=>
 .cH [0] (aqv r4.2) fun r5 _=>
 .cH [0] (aqr r5.2) fun r6 _=>
 .cH [0] (wY r6.2) fun r7 _=>
 .cH [0] (iK r7.2) fun r8 _=>
 .cH [0] (R_.ok2 r8.2) fun r9 _=>
 .cH [0] (aqw r9.2) fun r10 _=>
 .cH [0] (qY r10.2) fun r11 _=>
 .ret ⟨[.frz 2,.frz 3,.frz 4,.tod 0,.kill 1],[0],[],1⟩ (aG.mk r0.1 r1.1 r2.1 r3.1 r4.1 r5.1 r6.1 r7.1 r8.1 r9.1 r10.1 r11.1,r11.2)
theorem alS(R_:Xo):Xn fun p_b0=>Mo.den (alR R_ p_b0):=fun _=>eP Tryz.func40
def aio(R_:Xo)(r0:Int×aB):Mo (Bool):=
 .iG 6002 (decide ((r0.1:Int)<0)) (.stop)<|
 .rt [0,1,5,18] 1 (decide ((64:Int)≤r0.2.fQ))
def aip(R_:Xo)(r0:Int×aB)(r1:Bool):Mo (aB):=
 .iB (r1) (.stop)<|
 .rt [0,1,5] 1 (r0.2)
def adX(R_:Xo)(l0:List aG)(r0:Int×aB)(s7758:aB)(v0:Int):Mo (Bool):=
 .iG 16003 (decide ((v0:Int)<r0.1)) (.stop)<|
 .rt [0,1,5,6,7,38] 2 (false)
def adY(R_:Xo)(r0:Int×aB):(Int×aB×(List aG))→Mo ((Int×aB×(List aG))⊕(aB×(List aG))):=fun(v0,s7758,l0)=>
 .jk Tryz.f90 1 [1,1,1,1,1,0,1,0,0,0,0] 21 (fun r_=>⟨[(0,.ptr 0 0),(1,.raw (.func (.func 40) #[] #[])),(5,.i_ r0.1),(6,.own 1),(7,.i_ v0),(38,.b_ r_)],[bZ s7758,.row 49 78 (l0.map aG.lf)]⟩) ⟨[(0,.ptr 0 0),(1,.raw (.func (.func 40) #[] #[])),(5,.i_ r0.1),(6,.own 1),(7,.i_ v0)],[bZ s7758,.row 49 78 (l0.map aG.lf)]⟩ (adX R_ l0 r0 s7758 v0) fun r1=>
 .iB (r1) (.stop)<|
 .rt [0,6] 2 (.inr (s7758,l0))
def alT(R_:Xo)(p_b0:aB):Mo ((List aG)×aB):=
 .cH [0] (iK p_b0) fun r0 _=>
 .jk Tryz.f90 1 [1,1,0,0] 11 (fun r_=>⟨[(0,.ptr 0 0),(1,.raw (.func (.func 40) #[] #[])),(5,.i_ r0.1),(18,.b_ r_)],[bZ r0.2]⟩) ⟨[(0,.ptr 0 0),(1,.raw (.func (.func 40) #[] #[])),(5,.i_ r0.1)],[bZ r0.2]⟩ (aio R_ r0) fun r1=>
 .jk Tryz.f90 1 [1,1,0,1] 1 (fun r_=>⟨[(0,.ptr 0 0),(1,.raw (.func (.func 40) #[] #[])),(5,.i_ r0.1)],[bZ r_]⟩) ⟨[(0,.ptr 0 0),(1,.raw (.func (.func 40) #[] #[])),(5,.i_ r0.1),(18,.b_ r1)],[bZ r0.2]⟩ (aip R_ r0 r1) fun r2=>
 .say [] (ok1 (by simp[aG.aX]:(([]:List aG).map aG.lf)=[]))<|
 .l1y [.uw 6 49 78,.mF 1 (([]:List aG).map aG.lf)] Tryz.f90 1 [1,1,1,1,1,0,1,0] 0 (.exit 0) (fun(v0,s7758,l0)=>⟨[(0,.ptr 0 0),(1,.raw (.func (.func 40) #[] #[])),(5,.i_ r0.1),(6,.own 1),(7,.i_ v0)],[bZ s7758,.row 49 78 (l0.map aG.lf)]⟩) (fun r_=>⟨[(0,.ptr 0 0),(6,.own 1)],[bZ r_.1,.row 49 78 (r_.2.map aG.lf)]⟩) (adY R_ r0) (0,(aB.mk r2.iM r2.fat (IntKind.wrap .i64 (r2.fQ+1)) r2.dS),([]:List aG)) fun r3=>
 .ret ⟨[.frz 1],[0],[],1⟩ (r3.2,aB.mk r3.1.iM r3.1.fat (IntKind.wrap .i64 (r3.1.fQ-1)) r3.1.dS)
theorem alU(R_:Xo):agp fun p_b0=>Mo.den (alT R_ p_b0):=fun _=>eP Tryz.func90
def H7:Nat→Xo
 |0=>{ m1:=fun p_b0=>none,ok1:=fun _ _ h=>(by cases h),m2:=fun p_b0=>none,ok2:=fun _ _ h=>(by cases h) }
 |n_+1=>{ m1:=fun p_b0=>Mo.den (alR (H7 n_) p_b0),ok1:=alS (H7 n_),m2:=fun p_b0=>Mo.den (alT (H7 n_) p_b0),ok2:=alU (H7 n_) }
def axz(p_b0:aB):Option (aG×aB):=(H7 FU).m1 p_b0
theorem aqx:Xn axz:=(H7 FU).ok1
def aiq(p_s:ByteArray)(r0:Int×aB)(r1:Int×aB)(r2:ByteArray×aB)(r3:Int×aB)(r4:aG×aB):Mo (Bool):=
 .iG 10004 (r4.2.dS) (.ret ⟨[.kill 1],[0,2,5,35],[],3⟩ (true))<|
 .ret ⟨[.kill 1],[0,2,5,35],[],3⟩ (r4.2.fat != (p_s.size:Int))
def air(p_s:ByteArray)(r0:Int×aB)(r1:Int×aB)(r2:ByteArray×aB)(r3:Int×aB)(r4:aG×aB)(r5:ByteArray×Int):Mo (Bool):=
 .iG 16002 (r5.2 != 0) (.stop)<|
 .rt [2,5,48] 3 (!decide ((r5.1:ByteArray)=(p_s:ByteArray)))
def auC(p_s:ByteArray):Mo (bY×Int):=
 .say [.at_ 6 1,.norm 1] ok0<|
 .cH [1] (iK (aB.mk p_s 0 0 false)) fun r0 _=>
 .cH [1] (iK r0.2) fun r1 _=>
 .cH [1] (wY r1.2) fun r2 _=>
 .cH [1] (iK r2.2) fun r3 _=>
 .cH [1] (aqx r3.2) fun r4 _=>
 .jk Tryz.f16 0 [1,1,1,1,0,0] 15 (fun r_=>⟨[(0,.lf (.str p_s)),(2,.ptr 0 0),(5,.ptr 2 0),(35,.b_ r_)],[.box 51 (Z51),.dead,.box 51 (.agg (.i_ r0.1::.i_ r1.1::.lf (.str r2.1)::.i_ r3.1::.i_ r4.1.aF::.lf (.str r4.1.fV)::.i_ r4.1.fZ.aF::.i_ r4.1.fZ.eF::.lf (.str r4.1.fZ.fText)::.lf (.rows 5 (r4.1.fZ.aT.map ah.lf))::.lf (.rows 6 (r4.1.fZ.aW.map aJ.lf))::.i_ r4.1.aW.aF::.i_ r4.1.aW.eF::.lf (.str r4.1.aW.fText)::.lf (.rows 5 (r4.1.aW.aT.map ah.lf))::.lf (.rows 6 (r4.1.aW.aW.map aJ.lf))::.i_ r4.1.dG.aF::.i_ r4.1.dG.eF::.lf (.str r4.1.dG.fText)::.lf (.rows 5 (r4.1.dG.aT.map ah.lf))::.lf (.rows 6 (r4.1.dG.aW.map aJ.lf))::.lf (.str r4.1.dO.fName)::.lf (.rows 31 (r4.1.dO.bJ.map aS.lf))::.i_ r4.1.dO.bn.ig::.b_ r4.1.dO.bn.iO::.i_ r4.1.dO.bn.kP.aF::.i_ r4.1.dO.bn.kP.eF::.lf (.str r4.1.dO.bn.kP.fText)::.lf (.rows 5 (r4.1.dO.bn.kP.aT.map ah.lf))::.lf (.rows 6 (r4.1.dO.bn.kP.aW.map aJ.lf))::.b_ r4.1.dO.bn.iP::.i_ r4.1.dO.bn.kQ.aF::.i_ r4.1.dO.bn.kQ.eF::.lf (.str r4.1.dO.bn.kQ.fText)::.lf (.rows 5 (r4.1.dO.bn.kQ.aT.map ah.lf))::.lf (.rows 6 (r4.1.dO.bn.kQ.aW.map aJ.lf))::.lf (.rows 5 (r4.1.dO.bn.gZ.map ah.lf))::.i_ r4.1.dO.bn.jD::.i_ r4.1.dO.bn.jE::.lf (.rows 1 (r4.1.dO.bn.dW.map lfS))::.lf (.rows 22 (r4.1.dO.bn.cZ.map bH.lf))::.b_ r4.1.dO.bn.kG::.lf (.rows 21 (r4.1.dO.bn.dV.map aI.lf))::.b_ r4.1.dO.bn.fC::.i_ r4.1.dO.jZ::.i_ r4.1.dO.iI::.lf (.str r4.1.bf.fName)::.i_ r4.1.bf.aF::.lf (.rows 2 (r4.1.bf.fA.map aY.lf))::.b_ r4.1.bf.fC::.b_ r4.1.bf.jS::.b_ r4.1.bf.iE::.i_ r4.1.bf.bM.fOp::.lf (.rows 1 (r4.1.bf.bM.cO.map lfS))::.i_ r4.1.bf.bM.fArg.aF::.i_ r4.1.bf.bM.fArg.eF::.lf (.str r4.1.bf.bM.fArg.fText)::.lf (.rows 5 (r4.1.bf.bM.fArg.aT.map ah.lf))::.lf (.rows 6 (r4.1.bf.bM.fArg.aW.map aJ.lf))::.lf (.rows 5 (r4.1.bf.bM.fArgs.map ah.lf))::.i_ r4.1.bf.bM.fN::.i_ r4.1.bf.bM.fM::.i_ r4.1.bf.bM.dI.aF::.lf (.rows 2 (r4.1.bf.bM.dI.bG.map bU.lf))::.i_ r4.1.bf.bM.dI.fR::.i_ r4.1.bf.bM.fExpr.fOp::.lf (.rows 1 (r4.1.bf.bM.fExpr.cO.map lfS))::.lf (.str r4.1.bf.bM.fExpr.fName)::.lf (.rows 1 (r4.1.bf.bM.fExpr.eu.map lfS))::.i_ r4.1.bf.bM.fExpr.fArg.aF::.i_ r4.1.bf.bM.fExpr.fArg.eF::.lf (.str r4.1.bf.bM.fExpr.fArg.fText)::.lf (.rows 5 (r4.1.bf.bM.fExpr.fArg.aT.map ah.lf))::.lf (.rows 6 (r4.1.bf.bM.fExpr.fArg.aW.map aJ.lf))::.i_ r4.1.bf.bM.fExpr.fN::.lf (.rows 11 (r4.1.bf.bM.fExpr.bC.map aQ.lf))::.lf (.rows 25 (r4.1.bf.bM.bC.map aO.lf))::.lf (.str r4.1.mO)::.i_ r4.1.dU::.lf (.rows 78 (r4.1.bP.map aG.lf))::.lf (.rows 1 (r4.1.dK.map lfI))::.b_ r4.1.gq::[]))]⟩) ⟨[(0,.lf (.str p_s)),(2,.ptr 0 0),(4,.ptr 1 0),(5,.ptr 2 0)],[.box 51 (Z51),bZ r4.2,.box 51 (.agg (.i_ r0.1::.i_ r1.1::.lf (.str r2.1)::.i_ r3.1::.i_ r4.1.aF::.lf (.str r4.1.fV)::.i_ r4.1.fZ.aF::.i_ r4.1.fZ.eF::.lf (.str r4.1.fZ.fText)::.lf (.rows 5 (r4.1.fZ.aT.map ah.lf))::.lf (.rows 6 (r4.1.fZ.aW.map aJ.lf))::.i_ r4.1.aW.aF::.i_ r4.1.aW.eF::.lf (.str r4.1.aW.fText)::.lf (.rows 5 (r4.1.aW.aT.map ah.lf))::.lf (.rows 6 (r4.1.aW.aW.map aJ.lf))::.i_ r4.1.dG.aF::.i_ r4.1.dG.eF::.lf (.str r4.1.dG.fText)::.lf (.rows 5 (r4.1.dG.aT.map ah.lf))::.lf (.rows 6 (r4.1.dG.aW.map aJ.lf))::.lf (.str r4.1.dO.fName)::.lf (.rows 31 (r4.1.dO.bJ.map aS.lf))::.i_ r4.1.dO.bn.ig::.b_ r4.1.dO.bn.iO::.i_ r4.1.dO.bn.kP.aF::.i_ r4.1.dO.bn.kP.eF::.lf (.str r4.1.dO.bn.kP.fText)::.lf (.rows 5 (r4.1.dO.bn.kP.aT.map ah.lf))::.lf (.rows 6 (r4.1.dO.bn.kP.aW.map aJ.lf))::.b_ r4.1.dO.bn.iP::.i_ r4.1.dO.bn.kQ.aF::.i_ r4.1.dO.bn.kQ.eF::.lf (.str r4.1.dO.bn.kQ.fText)::.lf (.rows 5 (r4.1.dO.bn.kQ.aT.map ah.lf))::.lf (.rows 6 (r4.1.dO.bn.kQ.aW.map aJ.lf))::.lf (.rows 5 (r4.1.dO.bn.gZ.map ah.lf))::.i_ r4.1.dO.bn.jD::.i_ r4.1.dO.bn.jE::.lf (.rows 1 (r4.1.dO.bn.dW.map lfS))::.lf (.rows 22 (r4.1.dO.bn.cZ.map bH.lf))::.b_ r4.1.dO.bn.kG::.lf (.rows 21 (r4.1.dO.bn.dV.map aI.lf))::.b_ r4.1.dO.bn.fC::.i_ r4.1.dO.jZ::.i_ r4.1.dO.iI::.lf (.str r4.1.bf.fName)::.i_ r4.1.bf.aF::.lf (.rows 2 (r4.1.bf.fA.map aY.lf))::.b_ r4.1.bf.fC::.b_ r4.1.bf.jS::.b_ r4.1.bf.iE::.i_ r4.1.bf.bM.fOp::.lf (.rows 1 (r4.1.bf.bM.cO.map lfS))::.i_ r4.1.bf.bM.fArg.aF::.i_ r4.1.bf.bM.fArg.eF::.lf (.str r4.1.bf.bM.fArg.fText)::.lf (.rows 5 (r4.1.bf.bM.fArg.aT.map ah.lf))::.lf (.rows 6 (r4.1.bf.bM.fArg.aW.map aJ.lf))::.lf (.rows 5 (r4.1.bf.bM.fArgs.map ah.lf))::.i_ r4.1.bf.bM.fN::.i_ r4.1.bf.bM.fM::.i_ r4.1.bf.bM.dI.aF::.lf (.rows 2 (r4.1.bf.bM.dI.bG.map bU.lf))::.i_ r4.1.bf.bM.dI.fR::.i_ r4.1.bf.bM.fExpr.fOp::.lf (.rows 1 (r4.1.bf.bM.fExpr.cO.map lfS))::.lf (.str r4.1.bf.bM.fExpr.fName)::.lf (.rows 1 (r4.1.bf.bM.fExpr.eu.map lfS))::.i_ r4.1.bf.bM.fExpr.fArg.aF::.i_ r4.1.bf.bM.fExpr.fArg.eF::.lf (.str r4.1.bf.bM.fExpr.fArg.fText)::.lf (.rows 5 (r4.1.bf.bM.fExpr.fArg.aT.map ah.lf))::.lf (.rows 6 (r4.1.bf.bM.fExpr.fArg.aW.map aJ.lf))::.i_ r4.1.bf.bM.fExpr.fN::.lf (.rows 11 (r4.1.bf.bM.fExpr.bC.map aQ.lf))::.lf (.rows 25 (r4.1.bf.bM.bC.map aO.lf))::.lf (.str r4.1.mO)::.i_ r4.1.dU::.lf (.rows 78 (r4.1.bP.map aG.lf))::.lf (.rows 1 (r4.1.dK.map lfI))::.b_ r4.1.gq::[]))]⟩ (aiq p_s r0 r1 r2 r3 r4) fun r5=>
 .iB (r5) (.ret (aU 2) (bY.mk 0 0 ⟨#[]⟩ 0 aG.z,4))<|
 .cl (JW (bY.mk r0.1 r1.1 r2.1 r3.1 r4.1)) fun r6 _=>
 .jk Tryz.f16 0 [1,1,1,1,1,1,0,0] 21 (fun r_=>⟨[(2,.ptr 0 0),(5,.ptr 2 0),(48,.b_ r_)],[.box 51 (Z51),.dead,.box 51 (.agg (.i_ r0.1::.i_ r1.1::.lf (.str r2.1)::.i_ r3.1::.i_ r4.1.aF::.lf (.str r4.1.fV)::.i_ r4.1.fZ.aF::.i_ r4.1.fZ.eF::.lf (.str r4.1.fZ.fText)::.lf (.rows 5 (r4.1.fZ.aT.map ah.lf))::.lf (.rows 6 (r4.1.fZ.aW.map aJ.lf))::.i_ r4.1.aW.aF::.i_ r4.1.aW.eF::.lf (.str r4.1.aW.fText)::.lf (.rows 5 (r4.1.aW.aT.map ah.lf))::.lf (.rows 6 (r4.1.aW.aW.map aJ.lf))::.i_ r4.1.dG.aF::.i_ r4.1.dG.eF::.lf (.str r4.1.dG.fText)::.lf (.rows 5 (r4.1.dG.aT.map ah.lf))::.lf (.rows 6 (r4.1.dG.aW.map aJ.lf))::.lf (.str r4.1.dO.fName)::.lf (.rows 31 (r4.1.dO.bJ.map aS.lf))::.i_ r4.1.dO.bn.ig::.b_ r4.1.dO.bn.iO::.i_ r4.1.dO.bn.kP.aF::.i_ r4.1.dO.bn.kP.eF::.lf (.str r4.1.dO.bn.kP.fText)::.lf (.rows 5 (r4.1.dO.bn.kP.aT.map ah.lf))::.lf (.rows 6 (r4.1.dO.bn.kP.aW.map aJ.lf))::.b_ r4.1.dO.bn.iP::.i_ r4.1.dO.bn.kQ.aF::.i_ r4.1.dO.bn.kQ.eF::.lf (.str r4.1.dO.bn.kQ.fText)::.lf (.rows 5 (r4.1.dO.bn.kQ.aT.map ah.lf))::.lf (.rows 6 (r4.1.dO.bn.kQ.aW.map aJ.lf))::.lf (.rows 5 (r4.1.dO.bn.gZ.map ah.lf))::.i_ r4.1.dO.bn.jD::.i_ r4.1.dO.bn.jE::.lf (.rows 1 (r4.1.dO.bn.dW.map lfS))::.lf (.rows 22 (r4.1.dO.bn.cZ.map bH.lf))::.b_ r4.1.dO.bn.kG::.lf (.rows 21 (r4.1.dO.bn.dV.map aI.lf))::.b_ r4.1.dO.bn.fC::.i_ r4.1.dO.jZ::.i_ r4.1.dO.iI::.lf (.str r4.1.bf.fName)::.i_ r4.1.bf.aF::.lf (.rows 2 (r4.1.bf.fA.map aY.lf))::.b_ r4.1.bf.fC::.b_ r4.1.bf.jS::.b_ r4.1.bf.iE::.i_ r4.1.bf.bM.fOp::.lf (.rows 1 (r4.1.bf.bM.cO.map lfS))::.i_ r4.1.bf.bM.fArg.aF::.i_ r4.1.bf.bM.fArg.eF::.lf (.str r4.1.bf.bM.fArg.fText)::.lf (.rows 5 (r4.1.bf.bM.fArg.aT.map ah.lf))::.lf (.rows 6 (r4.1.bf.bM.fArg.aW.map aJ.lf))::.lf (.rows 5 (r4.1.bf.bM.fArgs.map ah.lf))::.i_ r4.1.bf.bM.fN::.i_ r4.1.bf.bM.fM::.i_ r4.1.bf.bM.dI.aF::.lf (.rows 2 (r4.1.bf.bM.dI.bG.map bU.lf))::.i_ r4.1.bf.bM.dI.fR::.i_ r4.1.bf.bM.fExpr.fOp::.lf (.rows 1 (r4.1.bf.bM.fExpr.cO.map lfS))::.lf (.str r4.1.bf.bM.fExpr.fName)::.lf (.rows 1 (r4.1.bf.bM.fExpr.eu.map lfS))::.i_ r4.1.bf.bM.fExpr.fArg.aF::.i_ r4.1.bf.bM.fExpr.fArg.eF::.lf (.str r4.1.bf.bM.fExpr.fArg.fText)::.lf (.rows 5 (r4.1.bf.bM.fExpr.fArg.aT.map ah.lf))::.lf (.rows 6 (r4.1.bf.bM.fExpr.fArg.aW.map aJ.lf))::.i_ r4.1.bf.bM.fExpr.fN::.lf (.rows 11 (r4.1.bf.bM.fExpr.bC.map aQ.lf))::.lf (.rows 25 (r4.1.bf.bM.bC.map aO.lf))::.lf (.str r4.1.mO)::.i_ r4.1.dU::.lf (.rows 78 (r4.1.bP.map aG.lf))::.lf (.rows 1 (r4.1.dK.map lfI))::.b_ r4.1.gq::[]))]⟩) ⟨[(0,.lf (.str p_s)),(2,.ptr 0 0),(5,.ptr 2 0),(6,.lf (.str r6.1)),(7,.i_ r6.2)],[.box 51 (Z51),.dead,.box 51 (.agg (.i_ r0.1::.i_ r1.1::.lf (.str r2.1)::.i_ r3.1::.i_ r4.1.aF::.lf (.str r4.1.fV)::.i_ r4.1.fZ.aF::.i_ r4.1.fZ.eF::.lf (.str r4.1.fZ.fText)::.lf (.rows 5 (r4.1.fZ.aT.map ah.lf))::.lf (.rows 6 (r4.1.fZ.aW.map aJ.lf))::.i_ r4.1.aW.aF::.i_ r4.1.aW.eF::.lf (.str r4.1.aW.fText)::.lf (.rows 5 (r4.1.aW.aT.map ah.lf))::.lf (.rows 6 (r4.1.aW.aW.map aJ.lf))::.i_ r4.1.dG.aF::.i_ r4.1.dG.eF::.lf (.str r4.1.dG.fText)::.lf (.rows 5 (r4.1.dG.aT.map ah.lf))::.lf (.rows 6 (r4.1.dG.aW.map aJ.lf))::.lf (.str r4.1.dO.fName)::.lf (.rows 31 (r4.1.dO.bJ.map aS.lf))::.i_ r4.1.dO.bn.ig::.b_ r4.1.dO.bn.iO::.i_ r4.1.dO.bn.kP.aF::.i_ r4.1.dO.bn.kP.eF::.lf (.str r4.1.dO.bn.kP.fText)::.lf (.rows 5 (r4.1.dO.bn.kP.aT.map ah.lf))::.lf (.rows 6 (r4.1.dO.bn.kP.aW.map aJ.lf))::.b_ r4.1.dO.bn.iP::.i_ r4.1.dO.bn.kQ.aF::.i_ r4.1.dO.bn.kQ.eF::.lf (.str r4.1.dO.bn.kQ.fText)::.lf (.rows 5 (r4.1.dO.bn.kQ.aT.map ah.lf))::.lf (.rows 6 (r4.1.dO.bn.kQ.aW.map aJ.lf))::.lf (.rows 5 (r4.1.dO.bn.gZ.map ah.lf))::.i_ r4.1.dO.bn.jD::.i_ r4.1.dO.bn.jE::.lf (.rows 1 (r4.1.dO.bn.dW.map lfS))::.lf (.rows 22 (r4.1.dO.bn.cZ.map bH.lf))::.b_ r4.1.dO.bn.kG::.lf (.rows 21 (r4.1.dO.bn.dV.map aI.lf))::.b_ r4.1.dO.bn.fC::.i_ r4.1.dO.jZ::.i_ r4.1.dO.iI::.lf (.str r4.1.bf.fName)::.i_ r4.1.bf.aF::.lf (.rows 2 (r4.1.bf.fA.map aY.lf))::.b_ r4.1.bf.fC::.b_ r4.1.bf.jS::.b_ r4.1.bf.iE::.i_ r4.1.bf.bM.fOp::.lf (.rows 1 (r4.1.bf.bM.cO.map lfS))::.i_ r4.1.bf.bM.fArg.aF::.i_ r4.1.bf.bM.fArg.eF::.lf (.str r4.1.bf.bM.fArg.fText)::.lf (.rows 5 (r4.1.bf.bM.fArg.aT.map ah.lf))::.lf (.rows 6 (r4.1.bf.bM.fArg.aW.map aJ.lf))::.lf (.rows 5 (r4.1.bf.bM.fArgs.map ah.lf))::.i_ r4.1.bf.bM.fN::.i_ r4.1.bf.bM.fM::.i_ r4.1.bf.bM.dI.aF::.lf (.rows 2 (r4.1.bf.bM.dI.bG.map bU.lf))::.i_ r4.1.bf.bM.dI.fR::.i_ r4.1.bf.bM.fExpr.fOp::.lf (.rows 1 (r4.1.bf.bM.fExpr.cO.map lfS))::.lf (.str r4.1.bf.bM.fExpr.fName)::.lf (.rows 1 (r4.1.bf.bM.fExpr.eu.map lfS))::.i_ r4.1.bf.bM.fExpr.fArg.aF::.i_ r4.1.bf.bM.fExpr.fArg.eF::.lf (.str r4.1.bf.bM.fExpr.fArg.fText)::.lf (.rows 5 (r4.1.bf.bM.fExpr.fArg.aT.map ah.lf))::.lf (.rows 6 (r4.1.bf.bM.fExpr.fArg.aW.map aJ.lf))::.i_ r4.1.bf.bM.fExpr.fN::.lf (.rows 11 (r4.1.bf.bM.fExpr.bC.map aQ.lf))::.lf (.rows 25 (r4.1.bf.bM.bC.map aO.lf))::.lf (.str r4.1.mO)::.i_ r4.1.dU::.lf (.rows 78 (r4.1.bP.map aG.lf))::.lf (.rows 1 (r4.1.dK.map lfI))::.b_ r4.1.gq::[]))]⟩ (air p_s r0 r1 r2 r3 r4 r6) fun r7=>
 .iB (r7) (.stop)<|
 .ret (aU 2) (bY.mk r0.1 r1.1 r2.1 r3.1 r4.1,0)
def axA(p_s:ByteArray):Option (bY×Int):=Mo.den (auC p_s)
theorem agq(p_s:ByteArray):FV (axA p_s) 16 [.lf (.str p_s)] (fun r=>.tup [.dat (bY.lf1 r.1),.i_ r.2]):=dw Tryz.func16
def Nq(p_n:Int):Mo (Int):=
 .iB (decide ((p_n:Int)<0)) (.rt [3] 0 (eU .xor .u64 (IntKind.max .u64) (F7 .u64 (IntKind.wrap .u64 p_n) 1)))<|
 .rt [3] 0 (F7 .u64 (IntKind.wrap .u64 p_n) 1)
def Xp(p_n:Int):Option (Int):=Mo.den (Nq p_n)
def Nr(v0:Int)(v1:ByteArray)(v2:Int):Mo (Bool):=
 .aV 14002 (decide ((v2:Int)<10)) [3,4,5,18] 0 (decide ((128:Int)≤v0))
def AX :(Int×ByteArray×Int)→Mo ((Int×ByteArray×Int)⊕(Int×ByteArray)):=fun(v0,v1,v2)=>
 .jk Tryz.f139 0 [1,1,1,1,0,1,0,0,0,0] 19 (fun r_=>⟨[(3,.lf (.int .u64 v0)),(4,.lf (.str v1)),(5,.i_ v2),(18,.b_ r_)],[]⟩) ⟨[(3,.lf (.int .u64 v0)),(4,.lf (.str v1)),(5,.i_ v2)],[]⟩ (Nr v0 v1 v2) fun r0=>
 .iB (r0) (.say [.nums [eU .or .u8 (IntKind.wrap .u8 (Int.tmod v0 128)) 128]] (okc (by decide:(128:Int)≠0) (ok1 (by simp[lfI,lfK]:[((lfK .u8) (eU .or .u8 (IntKind.wrap .u8 (Int.tmod v0 128)) 128))]=[eU .or .u8 (IntKind.wrap .u8 (Int.tmod v0 128)) 128].map fun n=>[Lf.int .u8 n])))<|
 .grd (v1.size+(strOfNums [eU .or .u8 (IntKind.wrap .u8 (Int.tmod v0 128)) 128]).size≤9223372036854775807) fun h0=>
 .say [] (okc h0 (ok1 (by decide:(128:Int)≠0)))<|
 .rt [3,4,5] 0 (.inl (IntKind.wrap .u64 (Int.tdiv v0 128),v1++(strOfNums [eU .or .u8 (IntKind.wrap .u8 (Int.tmod v0 128)) 128]),IntKind.wrap .i64 (v2+1))))<|
 .rt [3,4] 0 (.inr (v0,v1))
def Xq(v0:Int)(v1:ByteArray)(v2:Int):Option ((Int×ByteArray)):=bV (fun v_=>(AX  v_).den) FU (v0,v1,v2)
def alV(p_n:Int):Mo (ByteArray):=
 .say [] (ok1 (by decide:(0:Int)≤1))<|
 .jp Tryz.f139 0 [1,1,0,1] 1 [3,10] 0 (.normal) (fun r_=>⟨[(3,.lf (.int .u64 r_))],[]⟩) ⟨[(3,.lf (.int .u64 (F7 .u64 (IntKind.wrap .u64 p_n) 1))),(10,.lf (.bool (decide ((p_n:Int)<0))))],[]⟩ (Xp p_n) (jW (by kernel_rfl)) fun r0 _=>
 .l1m [] Tryz.f139 0 [1,1,1,1,0,1,0] 0 (.exit 0) (fun(v0,v1,v2)=>⟨[(3,.lf (.int .u64 v0)),(4,.lf (.str v1)),(5,.i_ v2)],[]⟩) (fun r_=>⟨[(3,.lf (.int .u64 r_.1)),(4,.lf (.str r_.2))],[]⟩) (Xq r0 ⟨#[]⟩ 0) (AX ) (r0,⟨#[]⟩,0) fun r1=>
 .say [.nums [IntKind.wrap .u8 r1.1]] (ok1 (by simp[lfI,lfK]:[((lfK .u8) (IntKind.wrap .u8 r1.1))]=[IntKind.wrap .u8 r1.1].map fun n=>[Lf.int .u8 n]))<|
 .grd (r1.2.size+(strOfNums [IntKind.wrap .u8 r1.1]).size≤9223372036854775807) fun h0=>
 .say [] (ok1 h0)<|
 .ret (aU 1) (r1.2++(strOfNums [IntKind.wrap .u8 r1.1]))
def Q31(p_n:Int):Option (ByteArray):=Mo.den (alV p_n)
theorem H8(p_n:Int):FV (Q31 p_n) 139 [.i_ p_n] (fun r=>.lf (.str r)):=dw Tryz.func139
def auD(p_n:Int)(p_b0:aK):Mo (aK):=
 .say [.order [(true,0),(true,1),(true,2),(true,3),(true,4),(false,5),(true,6),(true,7),(true,8),(false,9)] (some 9) []] ok0<|
 .cl (H8 p_n) fun r0 _=>
 .grd (p_b0.fS.size+r0.size≤9223372036854775807) fun h0=>
 .say [] (ok1 h0)<|
 .rt [] 1 (aK.mk (p_b0.fS++r0) p_b0.qJ p_b0.rJ)
def Q8(p_n:Int)(p_b0:aK):Option (aK):=Mo.den (auD p_n p_b0)
theorem jC(p_n:Int)(p_b0:aK):FH (Q8 p_n p_b0) 83 [.ptr 0 0,.i_ p_n] [eH p_b0] (fun _=>.tup []) (fun r=>[eH r]):=eP Tryz.func83
end
end Go.Proofs.YtflpefkohpjjpaaGreatDoor
set_option linter.unusedSimpArgs false
set_option linter.unusedVariables false
namespace Go.Proofs.YtflpefkohpjjpaaGreatDoor
open Go.RowKit
set_option maxRecDepth 20000
set_option maxHeartbeats 4000000
noncomputable section
def alW(p_s:ByteArray)(p_b0:aK):Mo (aK):=
 .cH [0] (jC (p_s.size:Int) p_b0) fun r0 _=>
 .grd (r0.fS.size+p_s.size≤9223372036854775807) fun h0=>
 .say [] (ok1 h0)<|
 .rt [] 1 (aK.mk (r0.fS++p_s) r0.qJ r0.rJ)
def Q56(p_s:ByteArray)(p_b0:aK):Option (aK):=Mo.den (alW p_s p_b0)
theorem uM(p_s:ByteArray)(p_b0:aK):FH (Q56 p_s p_b0) 84 [.ptr 0 0,.lf (.str p_s)] [eH p_b0] (fun _=>.tup []) (fun r=>[eH r]):=eP Tryz.func84
def alX(p_v:ah):Mo (Bool):=
 .sf Tryz.f71 0 [1,0] 0 8 1 [(1,.ptr 0 0),(2,.b_ false)] [aZ p_v] 10 (oW p_v) fun r0=>
 .sb Tryz.f71 0 [1,0] 8 5 1 [(1,.ptr 0 0),(2,.b_ false)] [aZ p_v] 10 15 r0 (oZ p_v r0) fun r1=>
 .sb Tryz.f71 0 [1,0] 13 6 1 [(1,.ptr 0 0),(2,.b_ false)] [aZ p_v] 15 21 r1 (mW p_v r1) fun r2=>
 .sk Tryz.f71 0 [1,0] 19 6 1 (fun r_=>⟨[(2,.b_ false),(27,.b_ r_)],[.dead]⟩) ⟨[(1,.ptr 0 0),(2,.b_ false),(21,.b_ r2)],[aZ p_v]⟩ (mX p_v r2) fun r3=>
 .sk Tryz.f71 0 [1,0] 25 1 1 (fun r_=>⟨[(2,.b_ r3)],[.dead]⟩) ⟨[(2,.b_ false),(27,.b_ r3)],[.dead]⟩ (dQ r3) fun r4=>
 .ret (aU 1) (r3)
def auE(p_v:ah):Option (Bool):=Mo.den (alX p_v)
theorem xg(p_v:ah):FV (auE p_v) 71 [.dat (ah.lf1 p_v)] .b_:=dw Tryz.func71
def Es(p_v:ah):(Int×(List ah))→Mo ((Int×(List ah))⊕((List ah))):=fun(v0,l0)=>
 .nu p_v.aT ah.lf<|
 .iB (decide ((v0:Int)<(p_v.aT.length:Int))) (.gx ah.aX p_v.aT v0 fun x0 _=>
 .say [.rows ((l0++[x0]).map ah.lf)] (ok1 (ap_ ah.aX l0 x0))<|
 .grd ((l0.length+[x0].length)*80≤140737488355328) fun h0=>
 .say [] (ok1 (cp_ ah.lf h0))<|
 .ret ⟨[],[1,3,4],[(3,1)],2⟩ (.inl (IntKind.wrap .i64 (v0+1),l0++[x0])))<|
 .rt [1,3] 2 (.inr (l0))
def adZ(p_v:ah)(v0:Int)(l0:List ah):Option (((List ah))):=bV (fun v_=>(Es p_v v_).den) FU (v0,l0)
def Z8(p_v:ah):Mo (((List ah))):=
 .iB (p_v.aF==6) (.say [] (ok1 (by simp[ah.aX]:(([]:List ah).map ah.lf)=[]))<|
 .l1m [.mF 1 (([]:List ah).map ah.lf)] Tryz.f312 0 [1,1,0,1,0,1,0] 0 (.exit 0) (fun(v0,l0)=>⟨[(1,.ptr 0 0),(3,.own 1),(4,.i_ v0)],[aZ p_v,.row 25 5 (l0.map ah.lf)]⟩) (fun r_=>⟨[(1,.ptr 0 0),(3,.own 1)],[aZ p_v,.row 25 5 (r_.map ah.lf)]⟩) (adZ p_v 0 ([]:List ah)) (Es p_v) (0,([]:List ah)) fun r0=>
 .rt [1,3] 2 (r0))<|
 .say [] (ok1 (by simp[ah.aX]:(([]:List ah).map ah.lf)=[]))<|
 .ret ⟨[.mF 1 (([]:List ah).map ah.lf)],[1,3],[],2⟩ (([]:List ah))
def AY(p_v:ah):(Int×(List ah))→Mo ((Int×(List ah))⊕((List ah))):=fun(v0,l0)=>
 .nu p_v.aW aJ.lf<|
 .iB (decide ((v0:Int)<(p_v.aW.length:Int))) (.gx aJ.aX p_v.aW v0 fun x0 _=>
 .say [.rows ((l0++[x0.fValue]).map ah.lf)] (ok1 (ap_ ah.aX l0 x0.fValue))<|
 .grd ((l0.length+[x0.fValue].length)*80≤140737488355328) fun h0=>
 .say [] (ok1 (cp_ ah.lf h0))<|
 .ret ⟨[],[1,3,5],[(3,1)],2⟩ (.inl (IntKind.wrap .i64 (v0+1),l0++[x0.fValue])))<|
 .ret ⟨[.kill 0],[3],[],2⟩ (.inr (l0))
def Xr(p_v:ah)(v0:Int)(l0:List ah):Option (((List ah))):=bV (fun v_=>(AY p_v v_).den) FU (v0,l0)
def SA(p_v:ah)(r0:((List ah))):Mo (((List ah))):=
 .iB (p_v.aF==5) (.l1m [] Tryz.f312 0 [1,1,1,0,1,0,1,0] 0 (.exit 2) (fun(v0,l0)=>⟨[(1,.ptr 0 0),(3,.own 1),(5,.i_ v0)],[aZ p_v,.row 25 5 (l0.map ah.lf)]⟩) (fun r_=>⟨[(3,.own 1)],[.dead,.row 25 5 (r_.map ah.lf)]⟩) (Xr p_v 0 r0) (AY p_v) (0,r0) fun r1=>
 .rt [3] 2 (r1))<|
 .ret ⟨[.kill 0],[3],[],2⟩ (r0)
def ar9(p_v:ah):Mo (List ah):=
 .jy [.uw 3 25 5] Tryz.f312 0 [1,1,0,1] 1 (.normal) (fun r_=>⟨[(1,.ptr 0 0),(3,.own 1)],[aZ p_v,.row 25 5 (r_.map ah.lf)]⟩) ⟨[(1,.ptr 0 0),(3,.own 1),(8,.lf (.bool (p_v.aF==6)))],[aZ p_v,.row 25 5 []]⟩ (Z8 p_v) fun r0=>
 .jk Tryz.f312 0 [1,1,1,0,1] 1 (fun r_=>⟨[(3,.own 1)],[.dead,.row 25 5 (r_.map ah.lf)]⟩) ⟨[(1,.ptr 0 0),(3,.own 1),(26,.lf (.bool (p_v.aF==5)))],[aZ p_v,.row 25 5 (r0.map ah.lf)]⟩ (SA p_v r0) fun r1=>
 .say [.at_ 0 0,.frz 1] ok0<|
 .ret (aU 1) (r1)
def Q40(p_v:ah):Option (List ah):=Mo.den (ar9 p_v)
theorem alY(p_v:ah):FV (Q40 p_v) 312 [.dat (ah.lf1 p_v)] (fun r=>.lf (.rows 5 (r.map ah.lf))):=dw Tryz.func312
abbrev Xt(m:ah→Int→Option (Int)):Prop:=∀p_v p_most,FV (m p_v p_most) 259 [.dat (ah.lf1 p_v),.i_ p_most] .i_
structure ais where
 m1:(p_v:ah)→(p_most:Int)→Option (Int)
 ok1:Xt m1
def Z9(R_:ais)(p_most:Int)(r0:List ah):Mo (Bool):=
 .iG 6002 (decide ((p_most:Int)<2)) (.rt [1,5,16] 1 (true))<|
 .nu r0 ah.lf<|
 .rt [1,5,16] 1 ((r0.length:Int)==0)
def Et(R_:ais)(p_most:Int)(r0:List ah):(Int×Int)→Mo ((Int×Int)⊕(Int)):=fun(v0,v1)=>
 .nu r0 ah.lf<|
 .iB (decide ((v1:Int)<(r0.length:Int))) (.gx ah.aX r0 v1 fun x0 _=>
 .cl (R_.ok1 x0 (IntKind.wrap .i64 (p_most-1))) fun r1 _=>
 .rt [1,5,6,7] 1 (.inl ((if r1 > v0 then r1 else v0),IntKind.wrap .i64 (v1+1))))<|
 .rt [6] 1 (.inr (v0))
def alZ(R_:ais)(p_most:Int)(r0:List ah)(v0:Int)(v1:Int):Option (Int):=bV (fun v_=>(Et R_ p_most r0 v_).den) FU (v0,v1)
def al0(R_:ais)(p_v:ah)(p_most:Int):Mo (Int):=
 .cl (alY p_v) fun r0 _=>
 .jy [.kill 0] Tryz.f259 0 [1,1,0,0] 11 (.normal) (fun r_=>⟨[(1,.i_ p_most),(5,.lf (.rows 5 (r0.map ah.lf))),(16,.b_ r_)],[.dead]⟩) ⟨[(1,.i_ p_most),(5,.lf (.rows 5 (r0.map ah.lf)))],[.dead]⟩ (Z9 R_ p_most r0) fun r1=>
 .iB (r1) (.ret (aU 1) (1))<|
 .l1m [] Tryz.f259 0 [1,1,1,1,0,1,0] 0 (.exit 0) (fun(v0,v1)=>⟨[(1,.i_ p_most),(5,.lf (.rows 5 (r0.map ah.lf))),(6,.i_ v0),(7,.i_ v1)],[.dead]⟩) (fun r_=>⟨[(6,.i_ r_)],[.dead]⟩) (alZ R_ p_most r0 0 0) (Et R_ p_most r0) (0,0) fun r2=>
 .ret (aU 1) (IntKind.wrap .i64 (r2+1))
theorem aqy(R_:ais):Xt fun p_v p_most=>Mo.den (al0 R_ p_v p_most):=fun _ _=>dw Tryz.func259
def Dc:Nat→ais
 |0=>{ m1:=fun p_v p_most=>none,ok1:=fun _ _ _ h=>(by cases h) }
 |n_+1=>{ m1:=fun p_v p_most=>Mo.den (al0 (Dc n_) p_v p_most),ok1:=aqy (Dc n_) }
def Q71(p_v:ah)(p_most:Int):Option (Int):=(Dc FU).m1 p_v p_most
theorem auF:Xt Q71:=(Dc FU).ok1
def al1(p_v:ah):Mo (Int):=
 .cl (auF p_v 17) fun r0 _=>
 .ret (aU 1) (r0)
def auG(p_v:ah):Option (Int):=Mo.den (al1 p_v)
theorem aqz(p_v:ah):FV (auG p_v) 189 [.dat (ah.lf1 p_v)] .i_:=dw Tryz.func189
abbrev Xu(m:ah→Int→Option (Int)):Prop:=∀p_v p_most,FV (m p_v p_most) 260 [.dat (ah.lf1 p_v),.i_ p_most] .i_
structure ait where
 m1:(p_v:ah)→(p_most:Int)→Option (Int)
 ok1:Xu m1
def Ns(R_:ait)(p_most:Int)(r0:List ah)(v0:Int)(v1:Int):Mo (Bool):=
 .nu r0 ah.lf<|
 .aV 10004 (decide ((v1:Int)<(r0.length:Int))) [1,5,6,7,18] 1 (decide ((v0:Int)<p_most))
def Eu(R_:ait)(p_most:Int)(r0:List ah):(Int×Int)→Mo ((Int×Int)⊕(Int)):=fun(v0,v1)=>
 .jk Tryz.f260 0 [1,1,1,0,1,0,0,0,0] 15 (fun r_=>⟨[(1,.i_ p_most),(5,.i_ v0),(6,.lf (.rows 5 (r0.map ah.lf))),(7,.i_ v1),(18,.b_ r_)],[.dead]⟩) ⟨[(1,.i_ p_most),(5,.i_ v0),(6,.lf (.rows 5 (r0.map ah.lf))),(7,.i_ v1)],[.dead]⟩ (Ns R_ p_most r0 v0 v1) fun r1=>
 .iB (r1) (.gx ah.aX r0 v1 fun x0 _=>
 .cl (R_.ok1 x0 (IntKind.wrap .i64 (p_most-v0))) fun r2 _=>
 .rt [1,5,6,7] 1 (.inl (IntKind.wrap .i64 (v0+r2),IntKind.wrap .i64 (v1+1))))<|
 .rt [5] 1 (.inr (v0))
def al2(R_:ait)(p_most:Int)(r0:List ah)(v0:Int)(v1:Int):Option (Int):=bV (fun v_=>(Eu R_ p_most r0 v_).den) FU (v0,v1)
def al3(R_:ait)(p_v:ah)(p_most:Int):Mo (Int):=
 .cl (alY p_v) fun r0 _=>
 .l1m [.kill 0] Tryz.f260 0 [1,1,1,0,1,0] 0 (.exit 0) (fun(v0,v1)=>⟨[(1,.i_ p_most),(5,.i_ v0),(6,.lf (.rows 5 (r0.map ah.lf))),(7,.i_ v1)],[.dead]⟩) (fun r_=>⟨[(5,.i_ r_)],[.dead]⟩) (al2 R_ p_most r0 1 0) (Eu R_ p_most r0) (1,0) fun r1=>
 .ret (aU 1) (r1)
theorem aqA(R_:ait):Xu fun p_v p_most=>Mo.den (al3 R_ p_v p_most):=fun _ _=>dw Tryz.func260
def Df:Nat→ait
 |0=>{ m1:=fun p_v p_most=>none,ok1:=fun _ _ _ h=>(by cases h) }
 |n_+1=>{ m1:=fun p_v p_most=>Mo.den (al3 (Df n_) p_v p_most),ok1:=aqA (Df n_) }
def Q69(p_v:ah)(p_most:Int):Option (Int):=(Df FU).m1 p_v p_most
theorem auH:Xu Q69:=(Df FU).ok1
def al4(p_v:ah):Mo (Int):=
 .cl (auH p_v 1025) fun r0 _=>
 .ret (aU 1) (r0)
def auI(p_v:ah):Option (Int):=Mo.den (al4 p_v)
theorem aqB(p_v:ah):FV (auI p_v) 190 [.dat (ah.lf1 p_v)] .i_:=dw Tryz.func190
def aac(p_i:Int)(p_n:Int)(p_s:ByteArray)(v0:Int):Mo (Bool):=
 .ask (jY p_s (IntKind.wrap .i64 (p_i+v0))) fun b0 h0=>
 .say [.byt b0] (ok1 (eY h0))<|
 .iG 14006 (decide (((b0.toNat:Int):Int)<128)) (.rt [0,1,2,7,32] 0 (true))<|
 .ask (jY p_s (IntKind.wrap .i64 (p_i+v0))) fun b1 h1=>
 .say [.byt b1] (ok1 (eY h1))<|
 .rt [0,1,2,7,32] 0 (decide ((191:Int)<(b1.toNat:Int)))
def Ew(p_i:Int)(p_n:Int)(p_s:ByteArray):(Int)→Mo ((Int)⊕(Unit⊕Unit)):=fun(v0)=>
 .iB (decide ((v0:Int)<p_n)) (.jk Tryz.f313 0 [1,1,0,1,0,0,1,0,0,0] 19 (fun r_=>⟨[(0,.lf (.str p_s)),(1,.i_ p_i),(2,.i_ p_n),(7,.i_ v0),(32,.b_ r_)],[]⟩) ⟨[(0,.lf (.str p_s)),(1,.i_ p_i),(2,.i_ p_n),(7,.i_ v0)],[]⟩ (aac p_i p_n p_s v0) fun r0=>
 .iB (r0) (.rt [6] 0 (.inr (.inl ())))<|
 .rt [0,1,2,7] 0 (.inl (IntKind.wrap .i64 (v0+1))))<|
 .rt [] 0 (.inr (.inr (())))
def al5(p_i:Int)(p_n:Int)(p_s:ByteArray)(v0:Int):Option (Unit⊕Unit):=bV (fun v_=>(Ew p_i p_n p_s v_).den) FU (v0)
def asa(p_s:ByteArray)(p_i:Int)(p_n:Int):Mo (Bool):=
 .iB (decide (((p_s.size:Int):Int)<(IntKind.wrap .i64 (p_i+p_n)))) (.ret (aU 1) (false))<|
 .l2m [] Tryz.f313 0 [1,1,0,1,0] 0 (fun(v0)=>⟨[(0,.lf (.str p_s)),(1,.i_ p_i),(2,.i_ p_n),(7,.i_ v0)],[]⟩) .ret (fun _=>⟨[(6,.b_ false)],[]⟩) (.exit 0) (fun _=>⟨[],[]⟩) (al5 p_i p_n p_s 0) (Ew p_i p_n p_s) (0) (fun o0=>
 .ret (aU 1) (false)) fun o1=>
 .ret (aU 1) (true)
def Q90(p_s:ByteArray)(p_i:Int)(p_n:Int):Option (Bool):=Mo.den (asa p_s p_i p_n)
theorem auJ(p_s:ByteArray)(p_i:Int)(p_n:Int):FV (Q90 p_s p_i p_n) 313 [.lf (.str p_s),.i_ p_i,.i_ p_n] .b_:=dw Tryz.func313
def agr(b0:UInt8)(p_s:ByteArray)(v0:Int):Mo (Bool):=
 .aV 16002 (decide ((194:Int)≤(b0.toNat:Int))) [0,3,4,16] 0 (decide (((b0.toNat:Int):Int)≤223))
def ags(b0:UInt8)(p_s:ByteArray)(v0:Int):Mo (Bool):=
 .aV 20002 (decide ((224:Int)≤(b0.toNat:Int))) [0,3,4,23] 0 (decide (((b0.toNat:Int):Int)≤239))
def aad(b0:UInt8)(p_s:ByteArray)(v0:Int):Mo (Bool):=
 .aV 24002 (decide ((240:Int)≤(b0.toNat:Int))) [0,3,4,30] 0 (decide (((b0.toNat:Int):Int)≤244))
def Nu(b0:UInt8)(p_s:ByteArray)(v0:Int):Mo ((Int)⊕Unit):=
 .iB (decide (((b0.toNat:Int):Int)<128)) (.rt [0,3,4,5] 0 (.inl (0)))<|
 .jk Tryz.f261 0 [1,0,1,0,0,1,0,1,1,0,0,1,1,0] 21 (fun r_=>⟨[(0,.lf (.str p_s)),(3,.i_ v0),(4,.lf (.int .u8 (b0.toNat:Int))),(16,.b_ r_)],[]⟩) ⟨[(0,.lf (.str p_s)),(3,.i_ v0),(4,.lf (.int .u8 (b0.toNat:Int)))],[]⟩ (agr b0 p_s v0) fun r0=>
 .iB (r0) (.rt [0,3,4,5] 0 (.inl (1)))<|
 .jk Tryz.f261 0 [1,0,1,0,0,1,0,1,1,0,0,1,1,1,1,0] 25 (fun r_=>⟨[(0,.lf (.str p_s)),(3,.i_ v0),(4,.lf (.int .u8 (b0.toNat:Int))),(23,.b_ r_)],[]⟩) ⟨[(0,.lf (.str p_s)),(3,.i_ v0),(4,.lf (.int .u8 (b0.toNat:Int)))],[]⟩ (ags b0 p_s v0) fun r1=>
 .iB (r1) (.rt [0,3,4,5] 0 (.inl (2)))<|
 .jk Tryz.f261 0 [1,0,1,0,0,1,0,1,1,0,0,1,1,1,1,1,1,0] 29 (fun r_=>⟨[(0,.lf (.str p_s)),(3,.i_ v0),(4,.lf (.int .u8 (b0.toNat:Int))),(30,.b_ r_)],[]⟩) ⟨[(0,.lf (.str p_s)),(3,.i_ v0),(4,.lf (.int .u8 (b0.toNat:Int)))],[]⟩ (aad b0 p_s v0) fun r2=>
 .iB (r2) (.rt [0,3,4,5] 0 (.inl (3)))<|
 .rt [2] 0 (.inr (()))
def Xv(b0:UInt8)(p_s:ByteArray)(v0:Int):Option ((Int)⊕Unit):=Mo.den (Nu b0 p_s v0)
def Ey(r_:(Int)⊕Unit):Exit:=match r_ with
 |.inl o_=>.normal
 |.inr (o_)=>.ret
def Ez(b0:UInt8)(p_s:ByteArray)(v0:Int)(r_:(Int)⊕Unit):St:=match r_ with
 |.inl o_=>⟨[(0,.lf (.str p_s)),(3,.i_ v0),(4,.lf (.int .u8 (b0.toNat:Int))),(5,.i_ o_)],[]⟩
 |.inr (o_)=>⟨[(2,.b_ false)],[]⟩
theorem aae{b0:UInt8}{p_s:ByteArray}{v0:Int}{r_:(Int)⊕Unit}(h:Xv b0 p_s v0=some r_):Ph Tryz.f261 0 [1,0,1,0,0,1,0,1,1,0] (Ey r_) (Ez b0 p_s v0 r_) ⟨[(0,.lf (.str p_s)),(3,.i_ v0),(4,.lf (.int .u8 (b0.toNat:Int))),(5,.i_ 0)],[]⟩:=
 CV oP (Nu b0 p_s v0) Ey (Ez b0 p_s v0) (by kernel_rfl) h
def aaf(b0:UInt8)(o0:Int)(p_s:ByteArray)(v0:Int):Mo (Bool):=
 .iG 32002 ((b0.toNat:Int)==224) (.ask (jY p_s (IntKind.wrap .i64 (v0+1))) fun b1 h0=>
 .say [.byt b1] (ok1 (eY h0))<|
 .rt [0,3,4,5,51] 0 (decide (((b1.toNat:Int):Int)<160)))<|
 .rt [0,3,4,5,51] 0 (false)
def ad1(b0:UInt8)(o0:Int)(p_s:ByteArray)(v0:Int):Option (Bool):=Mo.den (aaf b0 o0 p_s v0)
def aag(b0:UInt8)(o0:Int)(p_s:ByteArray)(r0:Bool)(v0:Int):Mo (Bool):=
 .iG 32009 (r0) (.rt [0,3,4,5,62] 0 (true))<|
 .iG 32012 ((b0.toNat:Int)==237) (.ask (jY p_s (IntKind.wrap .i64 (v0+1))) fun b1 h0=>
 .say [.byt b1] (ok1 (eY h0))<|
 .rt [0,3,4,5,62] 0 (decide ((159:Int)<(b1.toNat:Int))))<|
 .rt [0,3,4,5,62] 0 (false)
def ad2(b0:UInt8)(o0:Int)(p_s:ByteArray)(r0:Bool)(v0:Int):Option (Bool):=Mo.den (aag b0 o0 p_s r0 v0)
def aah(b0:UInt8)(o0:Int)(p_s:ByteArray)(r0:Bool)(v0:Int):Mo (Bool):=
 .iG 32020 (r0) (.rt [0,3,4,5,73] 0 (true))<|
 .iG 32023 ((b0.toNat:Int)==240) (.ask (jY p_s (IntKind.wrap .i64 (v0+1))) fun b1 h0=>
 .say [.byt b1] (ok1 (eY h0))<|
 .rt [0,3,4,5,73] 0 (decide (((b1.toNat:Int):Int)<144)))<|
 .rt [0,3,4,5,73] 0 (false)
def ad3(b0:UInt8)(o0:Int)(p_s:ByteArray)(r0:Bool)(v0:Int):Option (Bool):=Mo.den (aah b0 o0 p_s r0 v0)
def aai(b0:UInt8)(o0:Int)(p_s:ByteArray)(r0:Bool)(v0:Int):Mo (Bool):=
 .iG 32031 (r0) (.rt [0,3,5,84] 0 (true))<|
 .iG 32034 ((b0.toNat:Int)==244) (.ask (jY p_s (IntKind.wrap .i64 (v0+1))) fun b1 h0=>
 .say [.byt b1] (ok1 (eY h0))<|
 .rt [0,3,5,84] 0 (decide ((143:Int)<(b1.toNat:Int))))<|
 .rt [0,3,5,84] 0 (false)
def ad4(b0:UInt8)(o0:Int)(p_s:ByteArray)(r0:Bool)(v0:Int):Option (Bool):=Mo.den (aai b0 o0 p_s r0 v0)
def vJ(p_s:ByteArray):(Int)→Mo ((Int)⊕(Unit⊕Unit)):=fun(v0)=>
 .iB (decide ((v0:Int)<(p_s.size:Int))) (.ask (jY p_s v0) fun b0 h0=>
 .say [.byt b0] (ok1 (eY h0))<|
 .lI (Xv b0 p_s v0) (fun o0 h1=>
 .say [.pt_ 10 [0,3,4,5] 0 (Ey (.inl o0)) (Ez b0 p_s v0 (.inl o0))] (ok1 (aae h1))<|
 .cl (auJ p_s (IntKind.wrap .i64 (v0+1)) o0) fun r0 _=>
 .iB (!r0) (.rt [2] 0 (.inr (.inl ())))<|
 .sj Tryz.f261 0 [1,0,1,0,0,1,0,1,1,1,1,0,0] [0,1,2,3,4,5,6,7,8] 15 9 [0,3,4,5] 0 (fun r_=>⟨[(0,.lf (.str p_s)),(3,.i_ v0),(4,.lf (.int .u8 (b0.toNat:Int))),(5,.i_ o0),(51,.b_ r_)],[]⟩) ⟨[(0,.lf (.str p_s)),(3,.i_ v0),(4,.lf (.int .u8 (b0.toNat:Int))),(5,.i_ o0)],[]⟩ (ad1 b0 o0 p_s v0) (sW (by kernel_rfl)) fun r1 _=>
 .sj Tryz.f261 0 [1,0,1,0,0,1,0,1,1,1,1,0,0] [9,10,11,12,13,14,15,16,17,18,19] 15 11 [0,3,4,5,51] 0 (fun r_=>⟨[(0,.lf (.str p_s)),(3,.i_ v0),(4,.lf (.int .u8 (b0.toNat:Int))),(5,.i_ o0),(62,.b_ r_)],[]⟩) ⟨[(0,.lf (.str p_s)),(3,.i_ v0),(4,.lf (.int .u8 (b0.toNat:Int))),(5,.i_ o0),(51,.b_ r1)],[]⟩ (ad2 b0 o0 p_s r1 v0) (sW (by kernel_rfl)) fun r2 _=>
 .sj Tryz.f261 0 [1,0,1,0,0,1,0,1,1,1,1,0,0] [20,21,22,23,24,25,26,27,28,29,30] 15 11 [0,3,4,5,62] 0 (fun r_=>⟨[(0,.lf (.str p_s)),(3,.i_ v0),(4,.lf (.int .u8 (b0.toNat:Int))),(5,.i_ o0),(73,.b_ r_)],[]⟩) ⟨[(0,.lf (.str p_s)),(3,.i_ v0),(4,.lf (.int .u8 (b0.toNat:Int))),(5,.i_ o0),(62,.b_ r2)],[]⟩ (ad3 b0 o0 p_s r2 v0) (sW (by kernel_rfl)) fun r3 _=>
 .sj Tryz.f261 0 [1,0,1,0,0,1,0,1,1,1,1,0,0] [31,32,33,34,35,36,37,38,39,40,41] 15 11 [0,3,4,5,73] 0 (fun r_=>⟨[(0,.lf (.str p_s)),(3,.i_ v0),(5,.i_ o0),(84,.b_ r_)],[]⟩) ⟨[(0,.lf (.str p_s)),(3,.i_ v0),(4,.lf (.int .u8 (b0.toNat:Int))),(5,.i_ o0),(73,.b_ r3)],[]⟩ (ad4 b0 o0 p_s r3 v0) (sW (by kernel_rfl)) fun r4 _=>
 .iB (r4) (.rt [2] 0 (.inr (.inl ())))<|
 .rt [0,3] 0 (.inl (IntKind.wrap .i64 ((IntKind.wrap .i64 (v0+o0))+1)))) fun o1 h1=>
 .say [.pt_ 10 [0,3,4,5] 0 (Ey (.inr (o1))) (Ez b0 p_s v0 (.inr (o1)))] (ok1 (aae h1))<|
 .rt [2] 0 (.inr (.inl ())))<|
 .rt [] 0 (.inr (.inr (())))
def al6(p_s:ByteArray)(v0:Int):Option (Unit⊕Unit):=bV (fun v_=>(vJ p_s v_).den) FU (v0)
def awy(p_s:ByteArray):Mo (Bool):=
 .l2m [] Tryz.f261 0 [1,0,1,0] 0 (fun(v0)=>⟨[(0,.lf (.str p_s)),(3,.i_ v0)],[]⟩) .ret (fun _=>⟨[(2,.b_ false)],[]⟩) (.exit 0) (fun _=>⟨[],[]⟩) (al6 p_s 0) (vJ p_s) (0) (fun o0=>
 .ret (aU 1) (false)) fun o1=>
 .ret (aU 1) (true)
def Q1(p_s:ByteArray):Option (Bool):=Mo.den (awy p_s)
theorem awz(p_s:ByteArray):FV (Q1 p_s) 261 [.lf (.str p_s)] .b_:=dw Tryz.func261
def SB(p_s:ByteArray)(v0:Int):Mo (Bool):=
 .ask (jY p_s v0) fun b0 h0=>
 .say [.byt b0] (ok1 (eY h0))<|
 .iG 14004 (decide (((b0.toNat:Int):Int)<33)) (.rt [0,3,32] 0 (true))<|
 .ask (jY p_s v0) fun b1 h1=>
 .say [.byt b1] (ok1 (eY h1))<|
 .rt [0,3,32] 0 (decide ((126:Int)<(b1.toNat:Int)))
def SC(p_s:ByteArray)(r0:Bool)(v0:Int):Mo (Bool):=
 .iG 14010 (r0) (.rt [0,3,38] 0 (true))<|
 .ask (jY p_s v0) fun b0 h0=>
 .say [.byt b0] (ok1 (eY h0))<|
 .rt [0,3,38] 0 ((b0.toNat:Int)==46)
def SE(p_s:ByteArray):(Int)→Mo ((Int)⊕(Unit⊕Unit)):=fun(v0)=>
 .iB (decide ((v0:Int)<(p_s.size:Int))) (.sf Tryz.f120 0 [1,1,0,1,0,0,1,0,0,0] 0 10 6 [(0,.lf (.str p_s)),(3,.i_ v0)] [] 32 (SB p_s v0) fun r0=>
 .sb Tryz.f120 0 [1,1,0,1,0,0,1,0,0,0] 10 6 6 [(0,.lf (.str p_s)),(3,.i_ v0)] [] 32 38 r0 (SC p_s r0 v0) fun r1=>
 .iB (r1) (.rt [2] 0 (.inr (.inl ())))<|
 .rt [0,3] 0 (.inl (IntKind.wrap .i64 (v0+1))))<|
 .rt [] 0 (.inr (.inr (())))
def asb(p_s:ByteArray):Mo (Bool):=
 .sf Tryz.f120 0 [1,0,0] 0 8 1 [(0,.lf (.str p_s))] [] 11 (kW p_s) fun r0=>
 .sb Tryz.f120 0 [1,0,0] 8 5 1 [(0,.lf (.str p_s))] [] 11 16 r0 (kX p_s r0) fun r1=>
 .iB (r1) (.ret (aU 1) (false))<|
 .l2 Tryz.f120 0 [1,1,0,1,0] 0 (fun(v0)=>⟨[(0,.lf (.str p_s)),(3,.i_ v0)],[]⟩) .ret (fun _=>⟨[(2,.b_ false)],[]⟩) (.exit 0) (fun _=>⟨[],[]⟩) (SE p_s) (0) (fun o0=>
 .ret (aU 1) (false)) fun o1=>
 .ret (aU 1) (true)
def Q68(p_s:ByteArray):Option (Bool):=Mo.den (asb p_s)
theorem Dh(p_s:ByteArray):FV (Q68 p_s) 120 [.lf (.str p_s)] .b_:=dw Tryz.func120
def aiu(p_s:ByteArray):Mo (Bool):=
 .oV 4003 (decide (((p_s.size:Int):Int)<1)) [0,11] 0 (decide ((128:Int)<(p_s.size:Int)))
def aiv(p_s:ByteArray)(v0:Int):Mo (Bool):=
 .ask (jY p_s v0) fun b0 h0=>
 .say [.byt b0] (ok1 (eY h0))<|
 .iG 14004 (decide (((b0.toNat:Int):Int)<32)) (.rt [0,3,27] 0 (true))<|
 .ask (jY p_s v0) fun b1 h1=>
 .say [.byt b1] (ok1 (eY h1))<|
 .rt [0,3,27] 0 (decide ((126:Int)<(b1.toNat:Int)))
def ad5(p_s:ByteArray):(Int)→Mo ((Int)⊕(Unit⊕Unit)):=fun(v0)=>
 .iB (decide ((v0:Int)<(p_s.size:Int))) (.jk Tryz.f314 0 [1,1,0,1,0,0,1,0,0,0] 19 (fun r_=>⟨[(0,.lf (.str p_s)),(3,.i_ v0),(27,.b_ r_)],[]⟩) ⟨[(0,.lf (.str p_s)),(3,.i_ v0)],[]⟩ (aiv p_s v0) fun r0=>
 .iB (r0) (.rt [2] 0 (.inr (.inl ())))<|
 .rt [0,3] 0 (.inl (IntKind.wrap .i64 (v0+1))))<|
 .rt [] 0 (.inr (.inr (())))
def auK(p_s:ByteArray):Mo (Bool):=
 .jk Tryz.f314 0 [1,0,0] 9 (fun r_=>⟨[(0,.lf (.str p_s)),(11,.b_ r_)],[]⟩) ⟨[(0,.lf (.str p_s))],[]⟩ (aiu p_s) fun r0=>
 .iB (r0) (.ret (aU 1) (false))<|
 .l2 Tryz.f314 0 [1,1,0,1,0] 0 (fun(v0)=>⟨[(0,.lf (.str p_s)),(3,.i_ v0)],[]⟩) .ret (fun _=>⟨[(2,.b_ false)],[]⟩) (.exit 0) (fun _=>⟨[],[]⟩) (ad5 p_s) (0) (fun o0=>
 .ret (aU 1) (false)) fun o1=>
 .ret (aU 1) (true)
def axB(p_s:ByteArray):Option (Bool):=Mo.den (auK p_s)
theorem aqC(p_s:ByteArray):FV (axB p_s) 314 [.lf (.str p_s)] .b_:=dw Tryz.func314
abbrev Xw(m:ah→Bool→Option (Bool)):Prop:=∀p_v p_names,FV (m p_v p_names) 191 [.dat (ah.lf1 p_v),.b_ p_names] .b_
abbrev agt(m:ah→Bool→Option (Bool)):Prop:=∀p_v p_names,FV (m p_v p_names) 262 [.dat (ah.lf1 p_v),.b_ p_names] .b_
structure oN where
 m1:(p_v:ah)→(p_names:Bool)→Option (Bool)
 ok1:Xw m1
 m2:(p_v:ah)→(p_names:Bool)→Option (Bool)
 ok2:agt m2
def agu(R_:oN)(p_names:Bool)(p_v:ah):Mo (Bool):=
 .iG 4003 (p_v.aF != 6) (.nu p_v.aT ah.lf<|
 .rt [1,2,16] 1 (decide ((0:Int)<(p_v.aT.length:Int))))<|
 .rt [1,2,16] 1 (false)
def agv(R_:oN)(p_names:Bool)(p_v:ah)(r0:Bool):Mo (Bool):=
 .iG 4009 (r0) (.rt [1,2,27] 1 (true))<|
 .iG 4013 (p_v.aF != 5) (.nu p_v.aW aJ.lf<|
 .rt [1,2,27] 1 (decide ((0:Int)<(p_v.aW.length:Int))))<|
 .rt [1,2,27] 1 (false)
def aaj(R_:oN)(p_names:Bool)(p_v:ah):Mo (Bool):=
 .oV 8003 (p_v.aF==4) [1,2,35] 1 (p_v.aF==7)
def aak(R_:oN)(p_names:Bool)(p_v:ah)(r0:Bool):Mo (Bool):=
 .oV 8008 (r0) [1,2,40] 1 (p_v.aF==8)
def aal(R_:oN)(p_names:Bool)(p_v:ah)(r0:Bool):Mo (Unit):=
 .rt [1,2,5] 1 ()
def aam(R_:oN)(p_names:Bool)(p_v:ah)(r0:Bool):Mo (Bool):=
 .oV 10003 (p_v.aF==3) [1,2,5,48] 1 (p_v.aF==9)
def aan(R_:oN)(p_names:Bool)(p_v:ah)(r0:Bool)(r1:Bool):Mo (Bool):=
 .oV 10008 (r1) [1,2,5,53] 1 (p_v.aF==10)
def aao(R_:oN)(p_names:Bool)(p_v:ah)(r0:Bool)(r1:Bool):Mo (Unit):=
 .rt [1,2,5,6] 1 ()
def aap(R_:oN)(p_names:Bool)(p_v:ah)(r0:Bool)(r1:Bool):Mo (Bool):=
 .aV 12002 (!r0) [1,2,6,60] 1 (!decide ((p_v.fText:ByteArray)=(⟨#[]⟩:ByteArray)))
def aaq(R_:oN)(p_names:Bool)(p_v:ah)(r0:Bool)(r1:Bool):Mo (Bool):=
 .iG 12007 (r1) (.rt [1,2,69] 1 (true))<|
 .aV 12010 (!r0) [1,2,69] 1 (p_v.eF != 0)
def aar(R_:oN)(p_names:Bool)(p_v:ah)(r0:Bool):Mo (Bool):=
 .oV 12016 (r0) [1,2,74] 1 (decide ((p_v.aF:Int)<1))
def aas(R_:oN)(p_names:Bool)(p_v:ah)(r0:Bool):Mo (Bool):=
 .oV 12021 (r0) [1,2,79] 1 (decide ((11:Int)<p_v.aF))
def aat(R_:oN)(p_v:ah):Mo (Bool):=
 .iG 20003 (p_v.eF==0) (.ret ⟨[.kill 0],[4],[],1⟩ (true))<|
 .ret ⟨[.kill 0],[4],[],1⟩ (p_v.eF==1)
def aau(R_:oN)(p_v:ah):Mo (Bool):=
 .iG 28004 (decide (((p_v.fText.size:Int):Int)≤4096)) (.cl (awz p_v.fText) fun r0 _=>
 .ret ⟨[.kill 0],[4],[],1⟩ (r0))<|
 .ret ⟨[.kill 0],[4],[],1⟩ (false)
def EC(R_:oN)(p_names:Bool)(p_v:ah):(Int)→Mo ((Int)⊕(Unit⊕Unit)):=fun(v0)=>
 .nu p_v.aT ah.lf<|
 .iB (decide ((v0:Int)<(p_v.aT.length:Int))) (.gx ah.aX p_v.aT v0 fun x0 _=>
 .cl (R_.ok1 x0 p_names) fun r0 _=>
 .iB (!r0) (.ret ⟨[.kill 0],[4],[],1⟩ (.inr (.inl ())))<|
 .rt [1,2,7] 1 (.inl (IntKind.wrap .i64 (v0+1))))<|
 .rt [1,2] 1 (.inr (.inr (())))
def al7(R_:oN)(p_names:Bool)(p_v:ah)(v0:Int):Option (Unit⊕Unit):=bV (fun v_=>(EC R_ p_names p_v v_).den) FU (v0)
def aqD(R_:oN)(p_v:ah)(p_names:Bool):Mo (Bool):=
 .sf Tryz.f191 0 [1,0,0] 0 9 1 [(1,.b_ p_names),(2,.ptr 0 0)] [aZ p_v] 16 (agu R_ p_names p_v) fun r0=>
 .sb Tryz.f191 0 [1,0,0] 9 11 1 [(1,.b_ p_names),(2,.ptr 0 0)] [aZ p_v] 16 27 r0 (agv R_ p_names p_v r0) fun r1=>
 .iB (r1) (.ret (aU 1) (false))<|
 .sf Tryz.f191 0 [1,1,0] 0 8 3 [(1,.b_ p_names),(2,.ptr 0 0)] [aZ p_v] 35 (aaj R_ p_names p_v) fun r2=>
 .sb Tryz.f191 0 [1,1,0] 8 5 3 [(1,.b_ p_names),(2,.ptr 0 0)] [aZ p_v] 35 40 r2 (aak R_ p_names p_v r2) fun r3=>
 .sk Tryz.f191 0 [1,1,0] 13 1 3 (fun r_=>⟨[(1,.b_ p_names),(2,.ptr 0 0),(5,.b_ r3)],[aZ p_v]⟩) ⟨[(1,.b_ p_names),(2,.ptr 0 0),(40,.b_ r3)],[aZ p_v]⟩ (aal R_ p_names p_v r3) fun r4=>
 .sf Tryz.f191 0 [1,1,1,0] 0 8 4 [(1,.b_ p_names),(2,.ptr 0 0),(5,.b_ r3)] [aZ p_v] 48 (aam R_ p_names p_v r3) fun r5=>
 .sb Tryz.f191 0 [1,1,1,0] 8 5 4 [(1,.b_ p_names),(2,.ptr 0 0),(5,.b_ r3)] [aZ p_v] 48 53 r5 (aan R_ p_names p_v r3 r5) fun r6=>
 .sk Tryz.f191 0 [1,1,1,0] 13 1 4 (fun r_=>⟨[(1,.b_ p_names),(2,.ptr 0 0),(5,.b_ r3),(6,.b_ r6)],[aZ p_v]⟩) ⟨[(1,.b_ p_names),(2,.ptr 0 0),(5,.b_ r3),(53,.b_ r6)],[aZ p_v]⟩ (aao R_ p_names p_v r3 r6) fun r7=>
 .sk Tryz.f191 0 [1,1,1,1,0,0] 0 7 5 (fun r_=>⟨[(1,.b_ p_names),(2,.ptr 0 0),(6,.b_ r6),(60,.b_ r_)],[aZ p_v]⟩) ⟨[(1,.b_ p_names),(2,.ptr 0 0),(5,.b_ r3),(6,.b_ r6)],[aZ p_v]⟩ (aap R_ p_names p_v r3 r6) fun r8=>
 .sk Tryz.f191 0 [1,1,1,1,0,0] 7 9 5 (fun r_=>⟨[(1,.b_ p_names),(2,.ptr 0 0),(69,.b_ r_)],[aZ p_v]⟩) ⟨[(1,.b_ p_names),(2,.ptr 0 0),(6,.b_ r6),(60,.b_ r8)],[aZ p_v]⟩ (aaq R_ p_names p_v r6 r8) fun r9=>
 .sb Tryz.f191 0 [1,1,1,1,0,0] 16 5 5 [(1,.b_ p_names),(2,.ptr 0 0)] [aZ p_v] 69 74 r9 (aar R_ p_names p_v r9) fun r10=>
 .sb Tryz.f191 0 [1,1,1,1,0,0] 21 5 5 [(1,.b_ p_names),(2,.ptr 0 0)] [aZ p_v] 74 79 r10 (aas R_ p_names p_v r10) fun r11=>
 .iB (r11) (.ret (aU 1) (false))<|
 .iB (p_v.aF==9) (.jk Tryz.f191 0 [1,1,1,1,1,0,1,0,1,0,0] 25 (fun r_=>⟨[(4,.b_ r_)],[.dead]⟩) ⟨[(2,.ptr 0 0)],[aZ p_v]⟩ (aat R_ p_v) fun r12=>
 .ret (aU 1) (r12))<|
 .iB (p_v.aF==10) (.ret (aU 1) (decide ((0:Int)≤p_v.eF)))<|
 .iB (p_v.aF==4) (.jk Tryz.f191 0 [1,1,1,1,1,0,1,0,1,1,1,1,1,0,0] 33 (fun r_=>⟨[(4,.b_ r_)],[.dead]⟩) ⟨[(2,.ptr 0 0)],[aZ p_v]⟩ (aau R_ p_v) fun r13=>
 .ret (aU 1) (r13))<|
 .iB (p_v.aF==7) (.ret (aU 1) (decide (((p_v.fText.size:Int):Int)≤4096)))<|
 .iB (p_v.aF==8) (.ret (aU 1) ((p_v.fText.size:Int)==12))<|
 .l2m [] Tryz.f191 0 [1,1,1,1,1,1,0,1,0] 0 (fun(v0)=>⟨[(1,.b_ p_names),(2,.ptr 0 0),(7,.i_ v0)],[aZ p_v]⟩) .ret (fun _=>⟨[(4,.b_ false)],[.dead]⟩) (.exit 1) (fun _=>⟨[(1,.b_ p_names),(2,.ptr 0 0)],[aZ p_v]⟩) (al7 R_ p_names p_v 0) (EC R_ p_names p_v) (0) (fun o0=>
 .ret (aU 1) (false)) fun o1=>
 .cl (R_.ok2 p_v p_names) fun r14 _=>
 .ret (aU 1) (r14)
theorem auL(R_:oN):Xw fun p_v p_names=>Mo.den (aqD R_ p_v p_names):=fun _ _=>dw Tryz.func191
def aav(R_:oN)(p_names:Bool)(p_v:ah)(v0:Int)(x0:aJ):Mo (Bool):=
 .iG 12001 (p_names) (.cl (Dh x0.fName) fun r0 _=>
 .rt [1,2,5,6,26] 2 (!r0))<|
 .rt [1,2,5,6,26] 2 (false)
def aaw(R_:oN)(p_names:Bool)(p_v:ah)(r0:Bool)(v0:Int)(x0:aJ):Mo (Bool):=
 .iG 12007 (r0) (.rt [1,2,5,6,36] 2 (true))<|
 .iG 12010 (!p_names) (.cl (aqC x0.fName) fun r1 _=>
 .rt [1,2,5,6,36] 2 (!r1))<|
 .rt [1,2,5,6,36] 2 (false)
def SG(R_:oN)(p_names:Bool)(p_v:ah)(r0:Bool)(v0:Int)(x0:aJ):Mo (Bool):=
 .iG 12017 (r0) (.rt [1,2,5,6,43] 2 (true))<|
 .cl (R_.ok1 x0.fValue p_names) fun r1 _=>
 .rt [1,2,5,6,43] 2 (!r1)
def AZ(R_:oN)(p_names:Bool)(p_v:ah)(v0:Int)(x0:aJ):(Int)→Mo ((Int)⊕(Unit⊕Unit)):=fun(v1)=>
 .iB (decide ((v1:Int)<v0)) (.say [.order [(true,0),(true,1),(true,2),(true,3),(true,4),(true,5),(true,6),(true,7),(true,8)] none []] ok0<|
 .gx aJ.aX p_v.aW v1 fun x1 _=>
 .iB (decide ((x1.fName:ByteArray)=(x0.fName:ByteArray))) (.ret ⟨[.kill 0,.kill 1],[4],[],2⟩ (.inr (.inl ())))<|
 .rt [1,2,5,6,7] 2 (.inl (IntKind.wrap .i64 (v1+1))))<|
 .ret ⟨[.kill 1],[1,2,5],[],2⟩ (.inr (.inr (())))
def agw(R_:oN)(p_names:Bool)(p_v:ah)(v0:Int)(x0:aJ)(v1:Int):Option (Unit⊕Unit):=bV (fun v_=>(AZ R_ p_names p_v v0 x0 v_).den) FU (v1)
def A8(R_:oN)(p_names:Bool)(p_v:ah):(Int)→Mo ((Int)⊕(Unit⊕Unit)):=fun(v0)=>
 .nu p_v.aW aJ.lf<|
 .iB (decide ((v0:Int)<(p_v.aW.length:Int))) (.gx aJ.aX p_v.aW v0 fun x0 _=>
 .sf Tryz.f262 0 [1,0,1,0,0,1,0,0,1,0,0] 0 7 5 [(1,.b_ p_names),(2,.ptr 0 0),(5,.i_ v0),(6,.ptr 1 0)] [aZ p_v,.box 115 (.agg ((aJ.lf1 x0).map AV.lf))] 26 (aav R_ p_names p_v v0 x0) fun r0=>
 .sb Tryz.f262 0 [1,0,1,0,0,1,0,0,1,0,0] 7 10 5 [(1,.b_ p_names),(2,.ptr 0 0),(5,.i_ v0),(6,.ptr 1 0)] [aZ p_v,.box 115 (.agg ((aJ.lf1 x0).map AV.lf))] 26 36 r0 (aaw R_ p_names p_v r0 v0 x0) fun r1=>
 .sb Tryz.f262 0 [1,0,1,0,0,1,0,0,1,0,0] 17 7 5 [(1,.b_ p_names),(2,.ptr 0 0),(5,.i_ v0),(6,.ptr 1 0)] [aZ p_v,.box 115 (.agg ((aJ.lf1 x0).map AV.lf))] 36 43 r1 (SG R_ p_names p_v r1 v0 x0) fun r2=>
 .iB (r2) (.ret ⟨[.kill 0],[4],[],1⟩ (.inr (.inl ())))<|
 .l2m [] Tryz.f262 0 [1,0,1,0,0,1,0,0,1,1,1,0] 0 (fun(v1)=>⟨[(1,.b_ p_names),(2,.ptr 0 0),(5,.i_ v0),(6,.ptr 1 0),(7,.i_ v1)],[aZ p_v,.box 115 (.agg ((aJ.lf1 x0).map AV.lf))]⟩) .ret (fun _=>⟨[(4,.b_ false)],[.dead,.dead]⟩) (.exit 2) (fun _=>⟨[(1,.b_ p_names),(2,.ptr 0 0),(5,.i_ v0)],[aZ p_v,.dead]⟩) (agw R_ p_names p_v v0 x0 0) (AZ R_ p_names p_v v0 x0) (0) (fun o0=>
 .rt [4] 1 (.inr (.inl ()))) fun o1=>
 .rt [1,2,5] 1 (.inl (IntKind.wrap .i64 (v0+1))))<|
 .ret ⟨[.kill 0],[],[],1⟩ (.inr (.inr (())))
def agx(R_:oN)(p_names:Bool)(p_v:ah)(v0:Int):Option (Unit⊕Unit):=bV (fun v_=>(A8 R_ p_names p_v v_).den) FU (v0)
def agy(R_:oN)(p_v:ah)(p_names:Bool):Mo (Bool):=
 .l2m [] Tryz.f262 0 [1,0,1,0] 0 (fun(v0)=>⟨[(1,.b_ p_names),(2,.ptr 0 0),(5,.i_ v0)],[aZ p_v]⟩) .ret (fun _=>⟨[(4,.b_ false)],[.dead]⟩) (.exit 0) (fun _=>⟨[],[.dead]⟩) (agx R_ p_names p_v 0) (A8 R_ p_names p_v) (0) (fun o0=>
 .ret (aU 1) (false)) fun o1=>
 .ret (aU 1) (true)
theorem aqE(R_:oN):agt fun p_v p_names=>Mo.den (agy R_ p_v p_names):=fun _ _=>dw Tryz.func262
def rX:Nat→oN
 |0=>{ m1:=fun p_v p_names=>none,ok1:=fun _ _ _ h=>(by cases h),m2:=fun p_v p_names=>none,ok2:=fun _ _ _ h=>(by cases h) }
 |n_+1=>{ m1:=fun p_v p_names=>Mo.den (aqD (rX n_) p_v p_names),ok1:=auL (rX n_),m2:=fun p_v p_names=>Mo.den (agy (rX n_) p_v p_names),ok2:=aqE (rX n_) }
def Q5(p_v:ah)(p_names:Bool):Option (Bool):=(rX FU).m1 p_v p_names
theorem awC:Xw Q5:=(rX FU).ok1
def al8(p_v:ah):Mo (Bool):=
 .cl (aqz p_v) fun r0 _=>
 .iG 4003 (decide ((r0:Int)≤16)) (.cl (aqB p_v) fun r1 _=>
 .iG 4008 (decide ((r1:Int)≤1024)) (.cl (awC p_v true) fun r2 _=>
 .ret (aU 1) (r2))<|
 .ret (aU 1) (false))<|
 .ret (aU 1) (false)
def auM(p_v:ah):Option (Bool):=Mo.den (al8 p_v)
theorem tY(p_v:ah):FV (auM p_v) 123 [.dat (ah.lf1 p_v)] .b_:=dw Tryz.func123
abbrev Xx(m:ah→Option (ByteArray)):Prop:=∀p_v,FV (m p_v) 280 [.dat (ah.lf1 p_v)] (fun r=>.lf (.str r))
structure Jt where
 m1:(p_v:ah)→Option (ByteArray)
 ok1:Xx m1
def Xy(R_:Jt)(p_v:ah):Mo (Bool):=
 .iB (p_v.aF==3) (.rt [1,3,12,13] 2 (p_v.aF==3))<|
 .rt [1,3,12,13] 2 (p_v.aF==10)
def Xz(R_:Jt)(p_v:ah):Mo (Bool):=
 .iB (p_v.aF==4) (.rt [1,3,12,30] 2 (p_v.aF==4))<|
 .rt [1,3,12,30] 2 (p_v.aF==7)
def vK(R_:Jt)(p_v:ah):(ByteArray×Int)→Mo ((ByteArray×Int)⊕(ByteArray)):=fun(v0,v1)=>
 .nu p_v.aT ah.lf<|
 .iB (decide ((v1:Int)<(p_v.aT.length:Int))) (.gx ah.aX p_v.aT v1 fun x0 _=>
 .cl (R_.ok1 x0) fun r0 _=>
 .grd (v0.size+r0.size≤9223372036854775807) fun h0=>
 .say [] (ok1 h0)<|
 .rt [1,3,4] 2 (.inl (v0++r0,IntKind.wrap .i64 (v1+1))))<|
 .ret ⟨[.kill 0],[3],[],2⟩ (.inr (v0))
def ad6(R_:Jt)(p_v:ah)(v0:ByteArray)(v1:Int):Option (ByteArray):=bV (fun v_=>(vK R_ p_v v_).den) FU (v0,v1)
theorem axC:VH (opsOf (Code.sub (bodyC Tryz.f280) [1,1,0,1,0,1,1,1,1,1,1,1,1,1,1,1,0,1,1,0,0,1,0,0])) [(true,0),(true,1),(true,2),(true,3),(true,4),(true,5),(true,6),(true,7),(true,10),(true,11),(true,12),(true,13),(true,14),(true,15),(true,17),(true,18),(true,19),(true,20),(true,21),(true,22),(false,8),(true,9),(true,16),(false,23),(true,24),(true,25)] none=true:=by kernel_rfl
def vM(R_:Jt)(p_v:ah):(ByteArray×Int)→Mo ((ByteArray×Int)⊕(ByteArray)):=fun(v0,v1)=>
 .nu p_v.aW aJ.lf<|
 .iB (decide ((v1:Int)<(p_v.aW.length:Int))) (.say [.CB [(true,0),(true,1),(true,2),(true,3),(true,4),(true,5),(true,6),(true,7),(true,10),(true,11),(true,12),(true,13),(true,14),(true,15),(true,17),(true,18),(true,19),(true,20),(true,21),(true,22),(false,8),(true,9),(true,16),(false,23),(true,24),(true,25)] none []] (ok1 axC)<|
 .gx aJ.aX p_v.aW v1 fun x0 _=>
 .gx aJ.aX p_v.aW v1 fun x1 _=>
 .gx aJ.aX p_v.aW v1 fun x2 _=>
 .cl (H8 (x0.fName.size:Int)) fun r0 _=>
 .grd (v0.size+r0.size≤9223372036854775807) fun h0=>
 .say [] (ok1 h0)<|
 .grd ((v0++r0).size+x1.fName.size≤9223372036854775807) fun h1=>
 .say [] (ok1 h1)<|
 .cl (R_.ok1 x2.fValue) fun r1 _=>
 .grd (((v0++r0)++x1.fName).size+r1.size≤9223372036854775807) fun h2=>
 .say [] (ok1 h2)<|
 .rt [1,3,5] 2 (.inl (((v0++r0)++x1.fName)++r1,IntKind.wrap .i64 (v1+1))))<|
 .ret ⟨[.kill 0],[3],[],2⟩ (.inr (v0))
def ad7(R_:Jt)(p_v:ah)(v0:ByteArray)(v1:Int):Option (ByteArray):=bV (fun v_=>(vM R_ p_v v_).den) FU (v0,v1)
def ED(R_:Jt)(p_v:ah):Mo (ByteArray):=
 .jk Tryz.f280 0 [1,1,0,1,0,0,1] 1 (fun r_=>⟨[(1,.ptr 0 0),(3,.lf (.str (strOfNums [IntKind.wrap .u8 p_v.aF]))),(12,.i_ p_v.aF),(13,.b_ r_)],[aZ p_v,.dead]⟩) ⟨[(1,.ptr 0 0),(3,.lf (.str (strOfNums [IntKind.wrap .u8 p_v.aF]))),(12,.i_ p_v.aF),(13,.lf (.bool (p_v.aF==3)))],[aZ p_v,.dead]⟩ (Xy R_ p_v) fun r0=>
 .iB (r0) (.cl (H8 p_v.eF) fun r1 _=>
 .grd ((strOfNums [IntKind.wrap .u8 p_v.aF]).size+r1.size≤9223372036854775807) fun h0=>
 .say [] (ok1 h0)<|
 .ret ⟨[.kill 0],[3],[],2⟩ ((strOfNums [IntKind.wrap .u8 p_v.aF])++r1))<|
 .iB (p_v.aF==9) (.say [.nums [IntKind.wrap .u8 p_v.eF]] (ok1 (by simp[lfI,lfK]:[((lfK .u8) (IntKind.wrap .u8 p_v.eF))]=[IntKind.wrap .u8 p_v.eF].map fun n=>[Lf.int .u8 n]))<|
 .grd ((strOfNums [IntKind.wrap .u8 p_v.aF]).size+(strOfNums [IntKind.wrap .u8 p_v.eF]).size≤9223372036854775807) fun h1=>
 .say [] (ok1 h1)<|
 .ret ⟨[.kill 0],[3],[],2⟩ ((strOfNums [IntKind.wrap .u8 p_v.aF])++(strOfNums [IntKind.wrap .u8 p_v.eF])))<|
 .jk Tryz.f280 0 [1,1,0,1,0,1,1,1,1,0,1] 1 (fun r_=>⟨[(1,.ptr 0 0),(3,.lf (.str (strOfNums [IntKind.wrap .u8 p_v.aF]))),(12,.i_ p_v.aF),(30,.b_ r_)],[aZ p_v,.dead]⟩) ⟨[(1,.ptr 0 0),(3,.lf (.str (strOfNums [IntKind.wrap .u8 p_v.aF]))),(12,.i_ p_v.aF),(30,.lf (.bool (p_v.aF==4)))],[aZ p_v,.dead]⟩ (Xz R_ p_v) fun r2=>
 .iB (r2) (.say [.order [(true,0),(true,1),(true,2),(true,3),(true,6),(true,7),(false,4),(true,5),(true,8),(true,9)] none []] ok0<|
 .cl (H8 (p_v.fText.size:Int)) fun r3 _=>
 .grd ((strOfNums [IntKind.wrap .u8 p_v.aF]).size+r3.size≤9223372036854775807) fun h2=>
 .say [] (ok1 h2)<|
 .grd (((strOfNums [IntKind.wrap .u8 p_v.aF])++r3).size+p_v.fText.size≤9223372036854775807) fun h3=>
 .say [] (ok1 h3)<|
 .ret ⟨[.kill 0],[3],[],2⟩ (((strOfNums [IntKind.wrap .u8 p_v.aF])++r3)++p_v.fText))<|
 .iB (p_v.aF==8) (.grd ((strOfNums [IntKind.wrap .u8 p_v.aF]).size+p_v.fText.size≤9223372036854775807) fun h4=>
 .say [] (ok1 h4)<|
 .ret ⟨[.kill 0],[3],[],2⟩ ((strOfNums [IntKind.wrap .u8 p_v.aF])++p_v.fText))<|
 .iB (p_v.aF==6) (.nu p_v.aT ah.lf<|
 .cl (H8 (p_v.aT.length:Int)) fun r4 _=>
 .grd ((strOfNums [IntKind.wrap .u8 p_v.aF]).size+r4.size≤9223372036854775807) fun h5=>
 .say [] (ok1 h5)<|
 .l1m [] Tryz.f280 0 [1,1,0,1,0,1,1,1,1,1,1,1,1,1,0,1,1,0] 0 (.exit 1) (fun(v0,v1)=>⟨[(1,.ptr 0 0),(3,.lf (.str v0)),(4,.i_ v1)],[aZ p_v,.dead]⟩) (fun r_=>⟨[(3,.lf (.str r_))],[.dead,.dead]⟩) (ad6 R_ p_v ((strOfNums [IntKind.wrap .u8 p_v.aF])++r4) 0) (vK R_ p_v) (((strOfNums [IntKind.wrap .u8 p_v.aF])++r4),0) fun r5=>
 .rt [3] 2 (r5))<|
 .iB (p_v.aF==5) (.nu p_v.aW aJ.lf<|
 .cl (H8 (p_v.aW.length:Int)) fun r6 _=>
 .grd ((strOfNums [IntKind.wrap .u8 p_v.aF]).size+r6.size≤9223372036854775807) fun h6=>
 .say [] (ok1 h6)<|
 .l1m [] Tryz.f280 0 [1,1,0,1,0,1,1,1,1,1,1,1,1,1,1,1,0,1,1,0] 0 (.exit 3) (fun(v2,v3)=>⟨[(1,.ptr 0 0),(3,.lf (.str v2)),(5,.i_ v3)],[aZ p_v,.dead]⟩) (fun r_=>⟨[(3,.lf (.str r_))],[.dead,.dead]⟩) (ad7 R_ p_v ((strOfNums [IntKind.wrap .u8 p_v.aF])++r6) 0) (vM R_ p_v) (((strOfNums [IntKind.wrap .u8 p_v.aF])++r6),0) fun r7=>
 .rt [3] 2 (r7))<|
 .ret ⟨[.kill 0],[3],[],2⟩ (strOfNums [IntKind.wrap .u8 p_v.aF])
def Nv(R_:Jt)(p_v:ah):Option (ByteArray):=Mo.den (ED R_ p_v)
def EF  (r_:ByteArray):St:=⟨[(3,.lf (.str r_))],[.dead,.dead]⟩
theorem al9{R_:Jt}{p_v:ah}{r_:ByteArray}(h:Nv R_ p_v=some r_):Ph Tryz.f280 0 [1,1,0,1] (.normal) (EF r_) ⟨[(1,.ptr 0 0),(3,.lf (.str (strOfNums [IntKind.wrap .u8 p_v.aF]))),(12,.i_ p_v.aF)],[aZ p_v,.dead]⟩:=
 CV oP (ED R_ p_v) (fun _=>.normal) EF (by kernel_rfl) h
def aiw(R_:Jt)(p_v:ah):Mo (ByteArray):=
 .say [.nums [IntKind.wrap .u8 p_v.aF]] (ok1 (by simp[lfI,lfK]:[((lfK .u8) (IntKind.wrap .u8 p_v.aF))]=[IntKind.wrap .u8 p_v.aF].map fun n=>[Lf.int .u8 n]))<|
 .ask (Nv R_ p_v) fun r0 h0=>
 .say [.part [.kill 1] 6 [1,3,12] 2 (.normal) (EF r0).T (EF r0).H] (ok1 (al9 h0))<|
 .ret (aU 1) (r0)
theorem auN(R_:Jt):Xx fun p_v=>Mo.den (aiw R_ p_v):=fun _=>dw Tryz.func280
def pU:Nat→Jt
 |0=>{ m1:=fun p_v=>none,ok1:=fun _ _ h=>(by cases h) }
 |n_+1=>{ m1:=fun p_v=>Mo.den (aiw (pU n_) p_v),ok1:=auN (pU n_) }
def Q6(p_v:ah):Option (ByteArray):=(pU FU).m1 p_v
theorem awD:Xx Q6:=(pU FU).ok1
def ad8(p_v:ah):Mo (ByteArray×Int):=
 .cl (tY p_v) fun r0 _=>
 .iB (!r0) (.ret (aU 2) (⟨#[]⟩,8))<|
 .cl (awD p_v) fun r1 _=>
 .ret (aU 2) (r1,0)
def aqF(p_v:ah):Option (ByteArray×Int):=Mo.den (ad8 p_v)
theorem agz(p_v:ah):FV (aqF p_v) 218 [.dat (ah.lf1 p_v)] (fun r=>.tup [.lf (.str r.1),.i_ r.2]):=dw Tryz.func218
abbrev XA(m:ah→aK→Option (aK)):Prop:=∀p_v p_b0,FH (m p_v p_b0) 140 [.ptr 0 0,.dat (ah.lf1 p_v)] [eH p_b0] (fun _=>.tup []) (fun r=>[eH r])
abbrev XB(m:(List ah)→aK→Option (aK)):Prop:=∀p_l p_b0,FH (m p_l p_b0) 217 [.ptr 0 0,.lf (.rows 5 (p_l.map ah.lf))] [eH p_b0] (fun _=>.tup []) (fun r=>[eH r])
structure Po where
 m1:(p_v:ah)→(p_b0:aK)→Option (aK)
 ok1:XA m1
 m2:(p_l:List ah)→(p_b0:aK)→Option (aK)
 ok2:XB m2
def EG(R_:Po)(p_v:ah):(Int×aK)→Mo ((Int×aK)⊕(aK)):=fun(v0,s8009)=>
 .nu p_v.aW aJ.lf<|
 .iB (decide ((v0:Int)<(p_v.aW.length:Int))) (.gx aJ.aX p_v.aW v0 fun x0 _=>
 .cH [0] (uM x0.fName s8009) fun r0 _=>
 .gx aJ.aX p_v.aW v0 fun x1 _=>
 .cH [0] (R_.ok1 x1.fValue r0) fun r1 _=>
 .rt [0,3,4] 2 (.inl (IntKind.wrap .i64 (v0+1),r1)))<|
 .ret ⟨[.kill 1],[],[],2⟩ (.inr (s8009))
def ad9(R_:Po)(p_v:ah)(v0:Int)(s8009:aK):Option (aK):=bV (fun v_=>(EG R_ p_v v_).den) FU (v0,s8009)
def aax(R_:Po)(p_b0:aK)(r0:ByteArray×Int):Mo (aK):=
 .iG 32005 (p_b0.qJ) (.rt [0,5] 2 (aK.mk p_b0.fS true p_b0.rJ))<|
 .rt [0,5] 2 (aK.mk p_b0.fS (r0.2 != 0) p_b0.rJ)
def aay(R_:Po)(p_v:ah)(p_b0:aK):Mo (aK):=
 .iB (p_b0.rJ) (.cH [0] (jC p_v.aF p_b0) fun r0 _=>
 .cH [0] (jC p_v.eF r0) fun r1 _=>
 .cH [0] (uM p_v.fText r1) fun r2 _=>
 .ask (R_.m2 p_v.aT r2) fun r3 h0=>
 .say [.jm [0] (.tup []) [eH r3],.num p_v.aW.length] (okc (R_.ok2 _ _ _ h0) (ok1 (ln_ p_v.aW aJ.lf)))<|
 .cH [0] (jC (p_v.aW.length:Int) r3) fun r4 _=>
 .l1m [] Tryz.f140 1 [1,0,1,0,1,1,1,1,1,0,1,0] 0 (.exit 0) (fun(v0,s8009)=>⟨[(0,.ptr 0 0),(3,.ptr 1 0),(4,.i_ v0)],[eH s8009,aZ p_v]⟩) (fun r_=>⟨[],[eH r_,.dead]⟩) (ad9 R_ p_v 0 r4) (EG R_ p_v) (0,r4) fun r5=>
 .rt [] 1 (r5))<|
 .cl (xg p_v) fun r6 _=>
 .iB (r6) (.grd (p_b0.fS.size+(⟨#[0]⟩:ByteArray).size≤9223372036854775807) fun h1=>
 .say [] (ok1 h1)<|
 .ret ⟨[.kill 1],[],[],1⟩ (aK.mk (p_b0.fS++⟨#[0]⟩) p_b0.qJ p_b0.rJ))<|
 .cl (agz p_v) fun r7 _=>
 .jy [.kill 1] Tryz.f140 1 [1,1,1,1,0] 37 (.normal) (fun r_=>⟨[(0,.ptr 0 0),(5,.lf (.str r7.1))],[eH r_,.dead]⟩) ⟨[(0,.ptr 0 0),(5,.lf (.str r7.1)),(6,.i_ r7.2)],[eH p_b0,.dead]⟩ (aax R_ p_b0 r7) fun r8=>
 .grd ((⟨#[1]⟩:ByteArray).size+r7.1.size≤9223372036854775807) fun h2=>
 .say [] (ok1 h2)<|
 .grd (r8.fS.size+((⟨#[1]⟩:ByteArray)++r7.1).size≤9223372036854775807) fun h3=>
 .say [] (ok1 h3)<|
 .rt [] 1 (aK.mk (r8.fS++((⟨#[1]⟩:ByteArray)++r7.1)) r8.qJ r8.rJ)
theorem aqG(R_:Po):XA fun p_v p_b0=>Mo.den (aay R_ p_v p_b0):=fun _ _=>eP Tryz.func140
def vN(R_:Po)(p_l:List ah):(Int×aK)→Mo ((Int×aK)⊕(aK)):=fun(v0,s9581)=>
 .nu p_l ah.lf<|
 .iB (decide ((v0:Int)<(p_l.length:Int))) (.gx ah.aX p_l v0 fun x0 _=>
 .cH [0] (R_.ok1 x0 s9581) fun r0 _=>
 .rt [0,1,4] 1 (.inl (IntKind.wrap .i64 (v0+1),r0)))<|
 .rt [] 1 (.inr (s9581))
def Nw(R_:Po)(p_l:List ah)(v0:Int)(s9581:aK):Option (aK):=bV (fun v_=>(vN R_ p_l v_).den) FU (v0,s9581)
def aaz(R_:Po)(p_l:List ah)(p_b0:aK):Mo (aK):=
 .nu p_l ah.lf<|
 .cH [0] (jC (p_l.length:Int) p_b0) fun r0 _=>
 .l1m [] Tryz.f217 1 [1,1,0] 0 (.exit 0) (fun(v0,s9581)=>⟨[(0,.ptr 0 0),(1,.lf (.rows 5 (p_l.map ah.lf))),(4,.i_ v0)],[eH s9581]⟩) (fun r_=>⟨[],[eH r_]⟩) (Nw R_ p_l 0 r0) (vN R_ p_l) (0,r0) fun r1=>
 .rt [] 1 (r1)
theorem aqH(R_:Po):XB fun p_l p_b0=>Mo.den (aaz R_ p_l p_b0):=fun _ _=>eP Tryz.func217
def kC:Nat→Po
 |0=>{ m1:=fun p_v p_b0=>none,ok1:=fun _ _ _ h=>(by cases h),m2:=fun p_l p_b0=>none,ok2:=fun _ _ _ h=>(by cases h) }
 |n_+1=>{ m1:=fun p_v p_b0=>Mo.den (aay (kC n_) p_v p_b0),ok1:=aqG (kC n_),m2:=fun p_l p_b0=>Mo.den (aaz (kC n_) p_l p_b0),ok2:=aqH (kC n_) }
def Q32(p_v:ah)(p_b0:aK):Option (aK):=(kC FU).m1 p_v p_b0
theorem Di:XA Q32:=(kC FU).ok1
def Q43(p_l:List ah)(p_b0:aK):Option (aK):=(kC FU).m2 p_l p_b0
theorem ama:XB Q43:=(kC FU).ok2
def vO(p_l:List ByteArray):(Int×aK)→Mo ((Int×aK)⊕(aK)):=fun(v0,s9649)=>
 .nu p_l lfS<|
 .iB (decide ((v0:Int)<(p_l.length:Int))) (.gx lS_ p_l v0 fun x0 _=>
 .cH [0] (uM x0 s9649) fun r0 _=>
 .rt [0,1,4] 1 (.inl (IntKind.wrap .i64 (v0+1),r0)))<|
 .rt [] 1 (.inr (s9649))
def Ny(p_l:List ByteArray)(v0:Int)(s9649:aK):Option (aK):=bV (fun v_=>(vO p_l v_).den) FU (v0,s9649)
def amb(p_l:List ByteArray)(p_b0:aK):Mo (aK):=
 .nu p_l lfS<|
 .cH [0] (jC (p_l.length:Int) p_b0) fun r0 _=>
 .l1m [] Tryz.f220 1 [1,1,0] 0 (.exit 0) (fun(v0,s9649)=>⟨[(0,.ptr 0 0),(1,.lf (.rows 1 (p_l.map lfS))),(4,.i_ v0)],[eH s9649]⟩) (fun r_=>⟨[],[eH r_]⟩) (Ny p_l 0 r0) (vO p_l) (0,r0) fun r1=>
 .rt [] 1 (r1)
def Q39(p_l:List ByteArray)(p_b0:aK):Option (aK):=Mo.den (amb p_l p_b0)
theorem Nz(p_l:List ByteArray)(p_b0:aK):FH (Q39 p_l p_b0) 220 [.ptr 0 0,.lf (.rows 1 (p_l.map lfS))] [eH p_b0] (fun _=>.tup []) (fun r=>[eH r]):=eP Tryz.func220
def amc(p_b:Bool)(p_b0:aK):Mo (aK):=
 .iB (p_b) (.grd (p_b0.fS.size+(⟨#[1]⟩:ByteArray).size≤9223372036854775807) fun h0=>
 .say [] (ok1 h0)<|
 .rt [] 1 (aK.mk (p_b0.fS++⟨#[1]⟩) p_b0.qJ p_b0.rJ))<|
 .grd (p_b0.fS.size+(⟨#[0]⟩:ByteArray).size≤9223372036854775807) fun h1=>
 .say [] (ok1 h1)<|
 .rt [] 1 (aK.mk (p_b0.fS++⟨#[0]⟩) p_b0.qJ p_b0.rJ)
def Q64(p_b:Bool)(p_b0:aK):Option (aK):=Mo.den (amc p_b p_b0)
theorem xk(p_b:Bool)(p_b0:aK):FH (Q64 p_b p_b0) 143 [.ptr 0 0,.b_ p_b] [eH p_b0] (fun _=>.tup []) (fun r=>[eH r]):=eP Tryz.func143
def vP(p_s:dL):(Int×aK)→Mo ((Int×aK)⊕(aK)):=fun(v0,s9814)=>
 .nu p_s.bG bU.lf<|
 .iB (decide ((v0:Int)<(p_s.bG.length:Int))) (.gx bU.aX p_s.bG v0 fun x0 _=>
 .cH [0] (jC x0.fX s9814) fun r0 _=>
 .gx bU.aX p_s.bG v0 fun x1 _=>
 .cH [0] (jC x1.fY r0) fun r1 _=>
 .rt [0,3,4] 2 (.inl (IntKind.wrap .i64 (v0+1),r1)))<|
 .rt [0,3] 2 (.inr (s9814))
def NC(p_s:dL)(v0:Int)(s9814:aK):Option (aK):=bV (fun v_=>(vP p_s v_).den) FU (v0,s9814)
def amd(p_s:dL)(p_b0:aK):Mo (aK):=
 .ask (Q8 p_s.aF p_b0) fun r0 h0=>
 .say [.jm [0] (.tup []) [eH r0],.num p_s.bG.length] (okc (jC _ _ _ h0) (ok1 (ln_ p_s.bG bU.lf)))<|
 .cH [0] (jC (p_s.bG.length:Int) r0) fun r1 _=>
 .l1m [] Tryz.f281 1 [1,1,1,0,1,0] 0 (.exit 0) (fun(v0,s9814)=>⟨[(0,.ptr 0 0),(3,.ptr 1 0),(4,.i_ v0)],[eH s9814,xZ p_s]⟩) (fun r_=>⟨[(0,.ptr 0 0),(3,.ptr 1 0)],[eH r_,xZ p_s]⟩) (NC p_s 0 r1) (vP p_s) (0,r1) fun r2=>
 .cH [0] (jC p_s.fR r2) fun r3 _=>
 .ret ⟨[.kill 1],[],[],1⟩ (r3)
def Q55(p_s:dL)(p_b0:aK):Option (aK):=Mo.den (amd p_s p_b0)
theorem auO(p_s:dL)(p_b0:aK):FH (Q55 p_s p_b0) 281 [.ptr 0 0,.dat (dL.lf1 p_s)] [eH p_b0] (fun _=>.tup []) (fun r=>[eH r]):=eP Tryz.func281
abbrev XC(m:aQ→aK→Option (aK)):Prop:=∀p_e p_b0,FH (m p_e p_b0) 282 [.ptr 0 0,.dat (aQ.lf1 p_e)] [eH p_b0] (fun _=>.tup []) (fun r=>[eH r])
structure ame where
 m1:(p_e:aQ)→(p_b0:aK)→Option (aK)
 ok1:XC m1
def vS(R_:ame)(p_e:aQ):(Int×aK)→Mo ((Int×aK)⊕(aK)):=fun(v0,s9876)=>
 .nu p_e.bC aQ.lf<|
 .iB (decide ((v0:Int)<(p_e.bC.length:Int))) (.gx aQ.aX p_e.bC v0 fun x0 _=>
 .cH [0] (R_.ok1 x0 s9876) fun r0 _=>
 .rt [0,3,4] 2 (.inl (IntKind.wrap .i64 (v0+1),r0)))<|
 .ret ⟨[.kill 1],[],[],2⟩ (.inr (s9876))
def ND(R_:ame)(p_e:aQ)(v0:Int)(s9876:aK):Option (aK):=bV (fun v_=>(vS R_ p_e v_).den) FU (v0,s9876)
def aaA(R_:ame)(p_e:aQ)(p_b0:aK):Mo (aK):=
 .cH [0] (jC p_e.fOp p_b0) fun r0 _=>
 .cH [0] (Nz p_e.cO r0) fun r1 _=>
 .cH [0] (uM p_e.fName r1) fun r2 _=>
 .cH [0] (Nz p_e.eu r2) fun r3 _=>
 .cH [0] (Di p_e.fArg r3) fun r4 _=>
 .ask (Q8 p_e.fN r4) fun r5 h0=>
 .say [.jm [0] (.tup []) [eH r5],.num p_e.bC.length] (okc (jC _ _ _ h0) (ok1 (ln_ p_e.bC aQ.lf)))<|
 .cH [0] (jC (p_e.bC.length:Int) r5) fun r6 _=>
 .l1m [] Tryz.f282 1 [1,1,1,1,1,1,1,1,1,0] 0 (.exit 0) (fun(v0,s9876)=>⟨[(0,.ptr 0 0),(3,.ptr 1 0),(4,.i_ v0)],[eH s9876,dM p_e]⟩) (fun r_=>⟨[],[eH r_,.dead]⟩) (ND R_ p_e 0 r6) (vS R_ p_e) (0,r6) fun r7=>
 .rt [] 1 (r7)
theorem aqI(R_:ame):XC fun p_e p_b0=>Mo.den (aaA R_ p_e p_b0):=fun _ _=>eP Tryz.func282
def qN:Nat→ame
 |0=>{ m1:=fun p_e p_b0=>none,ok1:=fun _ _ _ h=>(by cases h) }
 |n_+1=>{ m1:=fun p_e p_b0=>Mo.den (aaA (qN n_) p_e p_b0),ok1:=aqI (qN n_) }
def Q46(p_e:aQ)(p_b0:aK):Option (aK):=(qN FU).m1 p_e p_b0
theorem auP:XC Q46:=(qN FU).ok1
abbrev XD(m:aO→aK→Option (aK)):Prop:=∀p_p p_b0,FH (m p_p p_b0) 221 [.ptr 0 0,.dat (aO.lf1 p_p)] [eH p_b0] (fun _=>.tup []) (fun r=>[eH r])
structure amf where
 m1:(p_p:aO)→(p_b0:aK)→Option (aK)
 ok1:XD m1
def vT(R_:amf)(p_p:aO):(Int×aK)→Mo ((Int×aK)⊕(aK)):=fun(v0,s9909)=>
 .nu p_p.bC aO.lf<|
 .iB (decide ((v0:Int)<(p_p.bC.length:Int))) (.gx aO.aX p_p.bC v0 fun x0 _=>
 .cH [0] (R_.ok1 x0 s9909) fun r0 _=>
 .rt [0,3,4] 2 (.inl (IntKind.wrap .i64 (v0+1),r0)))<|
 .ret ⟨[.kill 1],[],[],2⟩ (.inr (s9909))
def NG(R_:amf)(p_p:aO)(v0:Int)(s9909:aK):Option (aK):=bV (fun v_=>(vT R_ p_p v_).den) FU (v0,s9909)
def aaB(R_:amf)(p_p:aO)(p_b0:aK):Mo (aK):=
 .cH [0] (jC p_p.fOp p_b0) fun r0 _=>
 .cH [0] (Nz p_p.cO r0) fun r1 _=>
 .cH [0] (Di p_p.fArg r1) fun r2 _=>
 .cH [0] (ama p_p.fArgs r2) fun r3 _=>
 .cH [0] (jC p_p.fN r3) fun r4 _=>
 .cH [0] (jC p_p.fM r4) fun r5 _=>
 .cH [0] (auO p_p.dI r5) fun r6 _=>
 .ask (Q46 p_p.fExpr r6) fun r7 h0=>
 .say [.jm [0] (.tup []) [eH r7],.num p_p.bC.length] (okc (auP _ _ _ h0) (ok1 (ln_ p_p.bC aO.lf)))<|
 .cH [0] (jC (p_p.bC.length:Int) r7) fun r8 _=>
 .l1m [] Tryz.f221 1 [1,1,1,1,1,1,1,1,1,1,1,0] 0 (.exit 0) (fun(v0,s9909)=>⟨[(0,.ptr 0 0),(3,.ptr 1 0),(4,.i_ v0)],[eH s9909,dA p_p]⟩) (fun r_=>⟨[],[eH r_,.dead]⟩) (NG R_ p_p 0 r8) (vT R_ p_p) (0,r8) fun r9=>
 .rt [] 1 (r9)
theorem aqJ(R_:amf):XD fun p_p p_b0=>Mo.den (aaB R_ p_p p_b0):=fun _ _=>eP Tryz.func221
def qO:Nat→amf
 |0=>{ m1:=fun p_p p_b0=>none,ok1:=fun _ _ _ h=>(by cases h) }
 |n_+1=>{ m1:=fun p_p p_b0=>Mo.den (aaB (qO n_) p_p p_b0),ok1:=aqJ (qO n_) }
def Q51(p_p:aO)(p_b0:aK):Option (aK):=(qO FU).m1 p_p p_b0
theorem auQ:XD Q51:=(qO FU).ok1
def vU(p_x:aS):(Int×aK)→Mo ((Int×aK)⊕(aK)):=fun(v0,s9707)=>
 .nu p_x.fA aY.lf<|
 .iB (decide ((v0:Int)<(p_x.fA.length:Int))) (.gx aY.aX p_x.fA v0 fun x0 _=>
 .cH [0] (Nz x0.cO s9707) fun r0 _=>
 .gx aY.aX p_x.fA v0 fun x1 _=>
 .cH [0] (xk x1.xW r0) fun r1 _=>
 .rt [0,3,4] 2 (.inl (IntKind.wrap .i64 (v0+1),r1)))<|
 .rt [0,3] 2 (.inr (s9707))
def NH(p_x:aS)(v0:Int)(s9707:aK):Option (aK):=bV (fun v_=>(vU p_x v_).den) FU (v0,s9707)
def amg(p_x:aS)(p_b0:aK):Mo (aK):=
 .cH [0] (uM p_x.fName p_b0) fun r0 _=>
 .ask (Q8 p_x.aF r0) fun r1 h0=>
 .say [.jm [0] (.tup []) [eH r1],.num p_x.fA.length] (okc (jC _ _ _ h0) (ok1 (ln_ p_x.fA aY.lf)))<|
 .cH [0] (jC (p_x.fA.length:Int) r1) fun r2 _=>
 .l1m [] Tryz.f142 1 [1,1,1,1,0,1,0] 0 (.exit 0) (fun(v0,s9707)=>⟨[(0,.ptr 0 0),(3,.ptr 1 0),(4,.i_ v0)],[eH s9707,nS p_x]⟩) (fun r_=>⟨[(0,.ptr 0 0),(3,.ptr 1 0)],[eH r_,nS p_x]⟩) (NH p_x 0 r2) (vU p_x) (0,r2) fun r3=>
 .cH [0] (xk p_x.fC r3) fun r4 _=>
 .cH [0] (xk p_x.jS r4) fun r5 _=>
 .cH [0] (xk p_x.iE r5) fun r6 _=>
 .cH [0] (auQ p_x.bM r6) fun r7 _=>
 .ret ⟨[.kill 1],[],[],1⟩ (r7)
def Q36(p_x:aS)(p_b0:aK):Option (aK):=Mo.den (amg p_x p_b0)
theorem XE(p_x:aS)(p_b0:aK):FH (Q36 p_x p_b0) 142 [.ptr 0 0,.dat (aS.lf1 p_x)] [eH p_b0] (fun _=>.tup []) (fun r=>[eH r]):=eP Tryz.func142
abbrev XF(m:aI→aK→Option (aK)):Prop:=∀p_s p_b0,FH (m p_s p_b0) 219 [.ptr 0 0,.dat (aI.lf1 p_s)] [eH p_b0] (fun _=>.tup []) (fun r=>[eH r])
structure aea where
 m1:(p_s:aI)→(p_b0:aK)→Option (aK)
 ok1:XF m1
def vV(R_:aea)(p_s:aI):(Int×aK)→Mo ((Int×aK)⊕(aK)):=fun(v0,s10046)=>
 .nu p_s.cZ bH.lf<|
 .iB (decide ((v0:Int)<(p_s.cZ.length:Int))) (.gx bH.aX p_s.cZ v0 fun x0 _=>
 .cH [0] (uM x0.fName s10046) fun r0 _=>
 .gx bH.aX p_s.cZ v0 fun x1 _=>
 .cH [0] (R_.ok1 x1.bn r0) fun r1 _=>
 .rt [0,3,4] 2 (.inl (IntKind.wrap .i64 (v0+1),r1)))<|
 .rt [0,3] 2 (.inr (s10046))
def NI(R_:aea)(p_s:aI)(v0:Int)(s10046:aK):Option (aK):=bV (fun v_=>(vV R_ p_s v_).den) FU (v0,s10046)
def vW(R_:aea)(p_s:aI):(Int×aK)→Mo ((Int×aK)⊕(aK)):=fun(v0,s10097)=>
 .nu p_s.dV aI.lf<|
 .iB (decide ((v0:Int)<(p_s.dV.length:Int))) (.gx aI.aX p_s.dV v0 fun x0 _=>
 .cH [0] (R_.ok1 x0 s10097) fun r0 _=>
 .rt [0,3,5] 2 (.inl (IntKind.wrap .i64 (v0+1),r0)))<|
 .rt [0,3] 2 (.inr (s10097))
def NJ(R_:aea)(p_s:aI)(v0:Int)(s10097:aK):Option (aK):=bV (fun v_=>(vW R_ p_s v_).den) FU (v0,s10097)
def aaC(R_:aea)(p_s:aI)(p_b0:aK):Mo (aK):=
 .cH [0] (jC p_s.ig p_b0) fun r0 _=>
 .cH [0] (xk p_s.iO r0) fun r1 _=>
 .cH [0] (Di p_s.kP r1) fun r2 _=>
 .cH [0] (xk p_s.iP r2) fun r3 _=>
 .cH [0] (Di p_s.kQ r3) fun r4 _=>
 .cH [0] (ama p_s.gZ r4) fun r5 _=>
 .cH [0] (jC p_s.jD r5) fun r6 _=>
 .cH [0] (jC p_s.jE r6) fun r7 _=>
 .ask (Q39 p_s.dW r7) fun r8 h0=>
 .say [.jm [0] (.tup []) [eH r8],.num p_s.cZ.length] (okc (Nz _ _ _ h0) (ok1 (ln_ p_s.cZ bH.lf)))<|
 .cH [0] (jC (p_s.cZ.length:Int) r8) fun r9 _=>
 .l1m [] Tryz.f219 1 [1,1,1,1,1,1,1,1,1,1,1,0,1,0] 0 (.exit 0) (fun(v0,s10046)=>⟨[(0,.ptr 0 0),(3,.ptr 1 0),(4,.i_ v0)],[eH s10046,gy p_s]⟩) (fun r_=>⟨[(0,.ptr 0 0),(3,.ptr 1 0)],[eH r_,gy p_s]⟩) (NI R_ p_s 0 r9) (vV R_ p_s) (0,r9) fun r10=>
 .ask (Q64 p_s.kG r10) fun r11 h1=>
 .say [.jm [0] (.tup []) [eH r11],.num p_s.dV.length] (okc (xk _ _ _ h1) (ok1 (ln_ p_s.dV aI.lf)))<|
 .cH [0] (jC (p_s.dV.length:Int) r11) fun r12 _=>
 .l1m [] Tryz.f219 1 [1,1,1,1,1,1,1,1,1,1,1,1,1,1,0,1,0] 0 (.exit 2) (fun(v1,s10097)=>⟨[(0,.ptr 0 0),(3,.ptr 1 0),(5,.i_ v1)],[eH s10097,gy p_s]⟩) (fun r_=>⟨[(0,.ptr 0 0),(3,.ptr 1 0)],[eH r_,gy p_s]⟩) (NJ R_ p_s 0 r12) (vW R_ p_s) (0,r12) fun r13=>
 .cH [0] (xk p_s.fC r13) fun r14 _=>
 .ret ⟨[.kill 1],[],[],1⟩ (r14)
theorem aqK(R_:aea):XF fun p_s p_b0=>Mo.den (aaC R_ p_s p_b0):=fun _ _=>eP Tryz.func219
def nU:Nat→aea
 |0=>{ m1:=fun p_s p_b0=>none,ok1:=fun _ _ _ h=>(by cases h) }
 |n_+1=>{ m1:=fun p_s p_b0=>Mo.den (aaC (nU n_) p_s p_b0),ok1:=aqK (nU n_) }
def Q19(p_s:aI)(p_b0:aK):Option (aK):=(nU FU).m1 p_s p_b0
theorem auR:XF Q19:=(nU FU).ok1
def vX(p_d:bW):(Int×aK)→Mo ((Int×aK)⊕(aK)):=fun(v0,s9947)=>
 .nu p_d.bJ aS.lf<|
 .iB (decide ((v0:Int)<(p_d.bJ.length:Int))) (.gx aS.aX p_d.bJ v0 fun x0 _=>
 .cH [0] (XE x0 s9947) fun r0 _=>
 .rt [0,3,4] 2 (.inl (IntKind.wrap .i64 (v0+1),r0)))<|
 .rt [0,3] 2 (.inr (s9947))
def NK(p_d:bW)(v0:Int)(s9947:aK):Option (aK):=bV (fun v_=>(vX p_d v_).den) FU (v0,s9947)
def amh(p_d:bW)(p_b0:aK):Mo (aK):=
 .ask (Q56 p_d.fName p_b0) fun r0 h0=>
 .say [.jm [0] (.tup []) [eH r0],.num p_d.bJ.length] (okc (uM _ _ _ h0) (ok1 (ln_ p_d.bJ aS.lf)))<|
 .cH [0] (jC (p_d.bJ.length:Int) r0) fun r1 _=>
 .l1m [] Tryz.f141 1 [1,1,1,0,1,0] 0 (.exit 0) (fun(v0,s9947)=>⟨[(0,.ptr 0 0),(3,.ptr 1 0),(4,.i_ v0)],[eH s9947,oG p_d]⟩) (fun r_=>⟨[(0,.ptr 0 0),(3,.ptr 1 0)],[eH r_,oG p_d]⟩) (NK p_d 0 r1) (vX p_d) (0,r1) fun r2=>
 .cH [0] (auR p_d.bn r2) fun r3 _=>
 .cH [0] (jC p_d.jZ r3) fun r4 _=>
 .cH [0] (jC p_d.iI r4) fun r5 _=>
 .ret ⟨[.kill 1],[],[],1⟩ (r5)
def Q44(p_d:bW)(p_b0:aK):Option (aK):=Mo.den (amh p_d p_b0)
theorem aeb(p_d:bW)(p_b0:aK):FH (Q44 p_d p_b0) 141 [.ptr 0 0,.dat (bW.lf1 p_d)] [eH p_b0] (fun _=>.tup []) (fun r=>[eH r]):=eP Tryz.func141
abbrev XG(m:aG→aK→Option (aK)):Prop:=∀p_x p_b0,FH (m p_x p_b0) 85 [.ptr 0 0,.dat (aG.lf1 p_x)] [eH p_b0] (fun _=>.tup []) (fun r=>[eH r])
structure aec where
 m1:(p_x:aG)→(p_b0:aK)→Option (aK)
 ok1:XG m1
def EH(R_:aec)(p_x:aG):(Int×aK)→Mo ((Int×aK)⊕(aK)):=fun(v0,s10168)=>
 .nu p_x.bP aG.lf<|
 .iB (decide ((v0:Int)<(p_x.bP.length:Int))) (.gx aG.aX p_x.bP v0 fun x0 _=>
 .cH [0] (R_.ok1 x0 s10168) fun r0 _=>
 .rt [0,3,4] 2 (.inl (IntKind.wrap .i64 (v0+1),r0)))<|
 .rt [0,3] 2 (.inr (s10168))
def aed(R_:aec)(p_x:aG)(v0:Int)(s10168:aK):Option (aK):=bV (fun v_=>(EH R_ p_x v_).den) FU (v0,s10168)
def EI(R_:aec)(p_x:aG):(Int×aK)→Mo ((Int×aK)⊕(aK)):=fun(v0,s10211)=>
 .nu p_x.dK lfI<|
 .iB (decide ((v0:Int)<(p_x.dK.length:Int))) (.gx lI_ p_x.dK v0 fun x0 _=>
 .cH [0] (jC x0 s10211) fun r0 _=>
 .rt [0,3,5] 2 (.inl (IntKind.wrap .i64 (v0+1),r0)))<|
 .rt [0,3] 2 (.inr (s10211))
def aee(R_:aec)(p_x:aG)(v0:Int)(s10211:aK):Option (aK):=bV (fun v_=>(EI R_ p_x v_).den) FU (v0,s10211)
def agA(R_:aec)(p_x:aG)(p_b0:aK):Mo (aK):=
 .cH [0] (jC p_x.aF p_b0) fun r0 _=>
 .cH [0] (uM p_x.fV r0) fun r1 _=>
 .cH [0] (Di p_x.fZ r1) fun r2 _=>
 .cH [0] (Di p_x.aW r2) fun r3 _=>
 .cH [0] (Di p_x.dG r3) fun r4 _=>
 .cH [0] (aeb p_x.dO r4) fun r5 _=>
 .cH [0] (XE p_x.bf r5) fun r6 _=>
 .cH [0] (uM p_x.mO r6) fun r7 _=>
 .ask (Q8 p_x.dU r7) fun r8 h0=>
 .say [.jm [0] (.tup []) [eH r8],.num p_x.bP.length] (okc (jC _ _ _ h0) (ok1 (ln_ p_x.bP aG.lf)))<|
 .cH [0] (jC (p_x.bP.length:Int) r8) fun r9 _=>
 .l1m [] Tryz.f85 1 [1,1,1,1,1,1,1,1,1,1,1,0,1,0] 0 (.exit 0) (fun(v0,s10168)=>⟨[(0,.ptr 0 0),(3,.ptr 1 0),(4,.i_ v0)],[eH s10168,dP p_x]⟩) (fun r_=>⟨[(0,.ptr 0 0),(3,.ptr 1 0)],[eH r_,dP p_x]⟩) (aed R_ p_x 0 r9) (EH R_ p_x) (0,r9) fun r10=>
 .nu p_x.dK lfI<|
 .cH [0] (jC (p_x.dK.length:Int) r10) fun r11 _=>
 .l1m [] Tryz.f85 1 [1,1,1,1,1,1,1,1,1,1,1,1,1,0,1,0] 0 (.exit 2) (fun(v1,s10211)=>⟨[(0,.ptr 0 0),(3,.ptr 1 0),(5,.i_ v1)],[eH s10211,dP p_x]⟩) (fun r_=>⟨[(0,.ptr 0 0),(3,.ptr 1 0)],[eH r_,dP p_x]⟩) (aee R_ p_x 0 r11) (EI R_ p_x) (0,r11) fun r12=>
 .cH [0] (xk p_x.gq r12) fun r13 _=>
 .ret ⟨[.kill 1],[],[],1⟩ (r13)
theorem aqL(R_:aec):XG fun p_x p_b0=>Mo.den (agA R_ p_x p_b0):=fun _ _=>eP Tryz.func85
def xq:Nat→aec
 |0=>{ m1:=fun p_x p_b0=>none,ok1:=fun _ _ _ h=>(by cases h) }
 |n_+1=>{ m1:=fun p_x p_b0=>Mo.den (agA (xq n_) p_x p_b0),ok1:=aqL (xq n_) }
def Q38(p_x:aG)(p_b0:aK):Option (aK):=(xq FU).m1 p_x p_b0
theorem auS:XG Q38:=(xq FU).ok1
def ami(p_e:bY)(p_b0:aK):Mo (aK):=
 .cH [0] (jC p_e.rH p_b0) fun r0 _=>
 .cH [0] (jC p_e.dU r0) fun r1 _=>
 .cH [0] (uM p_e.kH r1) fun r2 _=>
 .cH [0] (jC p_e.oO r2) fun r3 _=>
 .cH [0] (auS p_e.dh r3) fun r4 _=>
 .ret ⟨[.kill 1],[],[],1⟩ (r4)
def auT(p_e:bY)(p_b0:aK):Option (aK):=Mo.den (ami p_e p_b0)
theorem agB(p_e:bY)(p_b0:aK):FH (auT p_e p_b0) 37 [.ptr 0 0,.dat (bY.lf1 p_e)] [eH p_b0] (fun _=>.tup []) (fun r=>[eH r]):=eP Tryz.func37
def auU(p_e:bY):Mo (ByteArray):=
 .say [.at_ 6 1,.norm 1] ok0<|
 .cH [1] (agB p_e (aK.mk ⟨#[]⟩ false true)) fun r0 _=>
 .ret (aU 1) (r0.fS)
def auV(p_e:bY):Option (ByteArray):=Mo.den (auU p_e)
theorem agC(p_e:bY):FV (auV p_e) 44 [.dat (bY.lf1 p_e)] (fun r=>.lf (.str r)):=dw Tryz.func44
def auW(p_a:bY)(p_b:bY):Mo (Bool):=
 .ask (auV p_a) fun r0 h0=>
 .say [] (ok1 (agC _ _ h0))<|
 .ask (auV p_b) fun r1 h1=>
 .say [.jf (.q 0 (.q 2 (.l 1 (.l 3 (.q 4 (.q 5 .fin)))))) (some 3) [] [.res (.lf (.str r0)),.res (.lf (.str r1))] [4] 2 [(4,.lf (.bool (decide ((r0:ByteArray)=(r1:ByteArray)))))] [oU p_a,oU p_b]] (okc (agC _ _ h1) (ok1 (rf_ ⟨[(4,.lf (.bool (decide ((r0:ByteArray)=(r1:ByteArray)))))],[oU p_a,oU p_b]⟩)))<|
 .ret (aU 1) (decide ((r0:ByteArray)=(r1:ByteArray)))
def axD(p_a:bY)(p_b:bY):Option (Bool):=Mo.den (auW p_a p_b)
theorem aqM(p_a:bY)(p_b:bY):FV (axD p_a p_b) 18 [.dat (bY.lf1 p_a),.dat (bY.lf1 p_b)] .b_:=dw Tryz.func18
abbrev XH(m:ah→Option (ah)):Prop:=∀p_v,FV (m p_v) 101 [.dat (ah.lf1 p_v)] (fun r=>.dat (ah.lf1 r))
abbrev XI(m:(List ah)→Option (List ah)):Prop:=∀p_l,FH (m p_l) 154 [.lf (.rows 5 (p_l.map ah.lf)),.raw (.func (.func 101) #[] #[])] [] (fun r=>.lf (.rows 5 (r.map ah.lf))) (fun _=>[])
abbrev agD(m:(List aJ)→Option (List aJ)):Prop:=∀p_l,FH (m p_l) 155 [.lf (.rows 6 (p_l.map aJ.lf)),.raw (.func (.func 156) #[] #[])] [] (fun r=>.lf (.rows 6 (r.map aJ.lf))) (fun _=>[])
abbrev agE(m:aJ→Option (aJ)):Prop:=∀p_f,FV (m p_f) 156 [.dat (aJ.lf1 p_f)] (fun r=>.dat (aJ.lf1 r))
structure Pq where
 m1:(p_v:ah)→Option (ah)
 ok1:XH m1
 m2:(p_l:List ah)→Option (List ah)
 ok2:XI m2
 m3:(p_l:List aJ)→Option (List aJ)
 ok3:agD m3
 m4:(p_f:aJ)→Option (aJ)
 ok4:agE m4
def amj(R_:Pq)(p_v:ah):Mo (ah):=
 .cH [] (R_.ok2 p_v.aT) fun r0 _=>
 .cH [] (R_.ok3 p_v.aW) fun r1 _=>
 .ret (aU 1) (ah.mk p_v.aF p_v.eF p_v.fText r0 r1)
theorem amk(R_:Pq):XH fun p_v=>Mo.den (amj R_ p_v):=fun _=>dw Tryz.func101
def aml(R_:Pq)(p_l:List ah):Mo (List ah):=
 .nu p_l ah.lf<|
 .iB ((p_l.length:Int)==0) (.ret ⟨[.nil 0 5,.tod 0],[0],[],0⟩ ([]))<|
 .stop
theorem amm(R_:Pq):XI fun p_l=>Mo.den (aml R_ p_l):=fun _=>eP Tryz.func154
def aix(R_:Pq)(p_l:List aJ):(Int×(List aJ))→Mo ((Int×(List aJ))⊕((List aJ))):=fun(v0,l0)=>
 .iB (decide ((v0:Int)<(p_l.length:Int))) (.gx aJ.aX p_l v0 fun x0 _=>
 .cl (R_.ok4 x0) fun r0 _=>
 .ask (mg l0 v0) fun x1 h0=>
 .say [.row (aJ.lf1 x1),.rows ((l0.set v0.toNat r0).map aJ.lf)] (okc (aoP aJ.aX h0) (okc (st_ aJ.aX l0 v0.toNat r0) (ok1 ((iy aJ.aX h0).2))))<|
 .rt [1,5,14,15,16] 1 (.inl (IntKind.wrap .i64 (v0+1),l0.set v0.toNat r0)))<|
 .rt [5] 1 (.inr (l0))
def amn(R_:Pq)(p_l:List aJ):Mo (List aJ):=
 .nu p_l aJ.lf<|
 .iB ((p_l.length:Int)==0) (.ret ⟨[.nil 0 6,.tod 0],[0],[],0⟩ ([]))<|
 .say [.num p_l.length,.rows ((List.replicate (p_l.length:Int).toNat (aJ.mk ⟨#[]⟩ (ah.mk 0 0 ⟨#[]⟩ [] []))).map aJ.lf),.num p_l.length] (okc (ln_ p_l aJ.lf) (ok1 (rp_ aJ.aX (p_l.length:Int).toNat (aJ.mk ⟨#[]⟩ (ah.mk 0 0 ⟨#[]⟩ [] [])))))<|
 .grd ((0:Int)≤(p_l.length:Int)∧96*(p_l.length:Int).toNat≤281474976710656∧(p_l.length:Int).toNat≤maxLen) fun h0=>
 .say [] (okc (mk_ (p_l.length:Int) h0) (ok1 (ln_ p_l aJ.lf)))<|
 .l1 Tryz.f155 0 [1,1,1,0,1,0] 0 (.exit 0) (fun(v0,l0)=>⟨[(1,.raw (.func (.func 156) #[] #[])),(5,.own 0),(14,.lf (.rows 6 (p_l.map aJ.lf))),(15,.i_ (p_l.length:Int)),(16,.i_ v0)],[.row 115 6 (l0.map aJ.lf)]⟩) (fun r_=>⟨[(5,.own 0)],[.row 115 6 (r_.map aJ.lf)]⟩) (aix R_ p_l) (0,(List.replicate (p_l.length:Int).toNat (aJ.mk ⟨#[]⟩ (ah.mk 0 0 ⟨#[]⟩ [] [])))) fun r0=>
 .ret ⟨[.frz 0],[0],[],0⟩ (r0)
theorem amo(R_:Pq):agD fun p_l=>Mo.den (amn R_ p_l):=fun _=>eP Tryz.func155
def amq(R_:Pq)(p_f:aJ):Mo (aJ):=
 .say [.order [(true,0),(true,1),(true,2),(true,3),(false,4),(true,5),(false,6)] (some 6) []] ok0<|
 .cl (R_.ok1 p_f.fValue) fun r0 _=>
 .ret (aU 1) (aJ.mk p_f.fName r0)
theorem amr(R_:Pq):agE fun p_f=>Mo.den (amq R_ p_f):=fun _=>dw Tryz.func156
def qP:Nat→Pq
 |0=>{ m1:=fun p_v=>none,ok1:=fun _ _ h=>(by cases h),m2:=fun p_l=>none,ok2:=fun _ _ h=>(by cases h),m3:=fun p_l=>none,ok3:=fun _ _ h=>(by cases h),m4:=fun p_f=>none,ok4:=fun _ _ h=>(by cases h) }
 |n_+1=>{ m1:=fun p_v=>Mo.den (amj (qP n_) p_v),ok1:=amk (qP n_),m2:=fun p_l=>Mo.den (aml (qP n_) p_l),ok2:=amm (qP n_),m3:=fun p_l=>Mo.den (amn (qP n_) p_l),ok3:=amo (qP n_),m4:=fun p_f=>Mo.den (amq (qP n_) p_f),ok4:=amr (qP n_) }
def axE(p_v:ah):Option (ah):=(qP FU).m1 p_v
theorem xu:XH axE:=(qP FU).ok1
def awE(p_l:List ah):Option (List ah):=(qP FU).m2 p_l
theorem agF:XI awE:=(qP FU).ok2
def auX(p_l:List ByteArray):Mo (List ByteArray):=
 .say [.rows (p_l.map lfS),.at_ 0 0,.frz 0] (ok1 (by simp[lfS]:p_l.map lfS=[]++(p_l.map lfS)))<|
 .grd ((([]:List ByteArray).length+p_l.length)*16≤140737488355328) fun h0=>
 .say [] (ok1 (cq_ lfS h0))<|
 .ret (aU 1) (p_l)
def axF(p_l:List ByteArray):Option (List ByteArray):=Mo.den (auX p_l)
theorem JX(p_l:List ByteArray):FV (axF p_l) 238 [.lf (.rows 1 (p_l.map lfS))] (fun r=>.lf (.rows 1 (r.map lfS))):=dw Tryz.func238
def auY(p_l:List aY):Mo (List aY):=
 .nu p_l aY.lf<|
 .iB ((p_l.length:Int)==0) (.say [] (ok1 (by simp[aY.aX]:(([]:List aY).map aY.lf)=[]))<|
 .ret ⟨[.uw 0 149 2,.mF 0 (([]:List aY).map aY.lf),.mvn 0],[0],[(1,0)],1⟩ (([]:List aY)))<|
 .stop
def axG(p_l:List aY):Option (List aY):=Mo.den (auY p_l)
theorem aqN(p_l:List aY):FH (axG p_l) 159 [.lf (.rows 2 (p_l.map aY.lf)),.raw (.func (.func 160) #[] #[])] [] (fun _=>.own 0) (fun r=>[.row 149 2 (r.map aY.lf)]):=eP Tryz.func159
abbrev XJ(m:aQ→Option (aQ)):Prop:=∀p_e,FV (m p_e) 242 [.dat (aQ.lf1 p_e)] (fun r=>.dat (aQ.lf1 r))
abbrev agG(m:(List aQ)→Option (List aQ)):Prop:=∀p_l,FH (m p_l) 295 [.lf (.rows 11 (p_l.map aQ.lf)),.raw (.func (.func 242) #[] #[])] [] (fun r=>.lf (.rows 11 (r.map aQ.lf))) (fun _=>[])
structure ams where
 m1:(p_e:aQ)→Option (aQ)
 ok1:XJ m1
 m2:(p_l:List aQ)→Option (List aQ)
 ok2:agG m2
def amu(R_:ams)(p_e:aQ):Mo (aQ):=
 .cl (JX p_e.cO) fun r0 _=>
 .cl (JX p_e.eu) fun r1 _=>
 .cl (xu p_e.fArg) fun r2 _=>
 .cH [] (R_.ok2 p_e.bC) fun r3 _=>
 .ret (aU 1) (aQ.mk p_e.fOp r0 p_e.fName r1 r2 p_e.fN r3)
theorem amv(R_:ams):XJ fun p_e=>Mo.den (amu R_ p_e):=fun _=>dw Tryz.func242
def amw(R_:ams)(p_l:List aQ):Mo (List aQ):=
 .nu p_l aQ.lf<|
 .iB ((p_l.length:Int)==0) (.ret ⟨[.nil 0 11,.tod 0],[0],[],0⟩ ([]))<|
 .stop
theorem amx(R_:ams):agG fun p_l=>Mo.den (amw R_ p_l):=fun _=>eP Tryz.func295
def H9:Nat→ams
 |0=>{ m1:=fun p_e=>none,ok1:=fun _ _ h=>(by cases h),m2:=fun p_l=>none,ok2:=fun _ _ h=>(by cases h) }
 |n_+1=>{ m1:=fun p_e=>Mo.den (amu (H9 n_) p_e),ok1:=amv (H9 n_),m2:=fun p_l=>Mo.den (amw (H9 n_) p_l),ok2:=amx (H9 n_) }
def axH(p_e:aQ):Option (aQ):=(H9 FU).m1 p_e
theorem aqO:XJ axH:=(H9 FU).ok1
end
end Go.Proofs.YtflpefkohpjjpaaGreatDoor
set_option linter.unusedSimpArgs false
set_option linter.unusedVariables false
namespace Go.Proofs.YtflpefkohpjjpaaGreatDoor
open Go.RowKit
set_option maxRecDepth 20000
set_option maxHeartbeats 4000000
noncomputable section
abbrev XK(m:aO→Option (aO)):Prop:=∀p_p,FV (m p_p) 161 [.dat (aO.lf1 p_p)] (fun r=>.dat (aO.lf1 r))
abbrev agH(m:(List aO)→Option (List aO)):Prop:=∀p_l,FH (m p_l) 243 [.lf (.rows 25 (p_l.map aO.lf)),.raw (.func (.func 161) #[] #[])] [] (fun r=>.lf (.rows 25 (r.map aO.lf))) (fun _=>[])
structure amy where
 m1:(p_p:aO)→Option (aO)
 ok1:XK m1
 m2:(p_l:List aO)→Option (List aO)
 ok2:agH m2
def amA(R_:amy)(p_p:aO):Mo (aO):=
 .cl (JX p_p.cO) fun r0 _=>
 .cl (xu p_p.fArg) fun r1 _=>
 .ask (awE p_p.fArgs) fun r2 h0=>
 .say [.jm [] (.lf (.rows 5 (r2.map ah.lf))) [],.rows (p_p.dI.bG.map bU.lf)] (okc (agF _ _ h0) (ok1 (by simp[bU.aX]:p_p.dI.bG.map bU.lf=[]++(p_p.dI.bG.map bU.lf))))<|
 .grd ((([]:List bU).length+p_p.dI.bG.length)*16≤140737488355328) fun h1=>
 .say [] (ok1 (cq_ bU.lf h1))<|
 .cl (aqO p_p.fExpr) fun r3 _=>
 .ask (R_.m2 p_p.bC) fun r4 h2=>
 .say [.jm [] (.lf (.rows 25 (r4.map aO.lf))) [],.at_ 0 0,.frz 2] (ok1 (R_.ok2 _ _ h2))<|
 .ret (aU 1) (aO.mk p_p.fOp r0 r1 r2 p_p.fN p_p.fM p_p.dI r3 r4)
theorem amB(R_:amy):XK fun p_p=>Mo.den (amA R_ p_p):=fun _=>dw Tryz.func161
def amC(R_:amy)(p_l:List aO):Mo (List aO):=
 .nu p_l aO.lf<|
 .iB ((p_l.length:Int)==0) (.ret ⟨[.nil 0 25,.tod 0],[0],[],0⟩ ([]))<|
 .stop
theorem amD(R_:amy):agH fun p_l=>Mo.den (amC R_ p_l):=fun _=>eP Tryz.func243
def Ia:Nat→amy
 |0=>{ m1:=fun p_p=>none,ok1:=fun _ _ h=>(by cases h),m2:=fun p_l=>none,ok2:=fun _ _ h=>(by cases h) }
 |n_+1=>{ m1:=fun p_p=>Mo.den (amA (Ia n_) p_p),ok1:=amB (Ia n_),m2:=fun p_l=>Mo.den (amC (Ia n_) p_l),ok2:=amD (Ia n_) }
def awF(p_p:aO):Option (aO):=(Ia FU).m1 p_p
theorem aqP:XK awF:=(Ia FU).ok1
def auZ(p_x:aS):Mo (aS):=
 .cH [] (aqN p_x.fA) fun r0 _=>
 .ask (awF p_x.bM) fun r1 h0=>
 .say [.res (.dat (aO.lf1 r1)),.at_ 0 0,.frz 2] (ok1 (aqP _ _ h0))<|
 .ret (aU 1) (aS.as2 (aS.av9 p_x r0) r1)
def axI(p_x:aS):Option (aS):=Mo.den (auZ p_x)
theorem aqQ(p_x:aS):FV (axI p_x) 103 [.dat (aS.lf1 p_x)] (fun r=>.dat (aS.lf1 r)):=dw Tryz.func103
def au0(p_l:List aS):Mo (List aS):=
 .nu p_l aS.lf<|
 .iB ((p_l.length:Int)==0) (.say [] (ok1 (by simp[aS.aX]:(([]:List aS).map aS.lf)=[]))<|
 .ret ⟨[.uw 0 45 31,.mF 0 (([]:List aS).map aS.lf),.mvn 0],[0],[(1,0)],1⟩ (([]:List aS)))<|
 .stop
def axJ(p_l:List aS):Option (List aS):=Mo.den (au0 p_l)
theorem aqR(p_l:List aS):FH (axJ p_l) 157 [.lf (.rows 31 (p_l.map aS.lf)),.raw (.func (.func 103) #[] #[])] [] (fun _=>.own 0) (fun r=>[.row 45 31 (r.map aS.lf)]):=eP Tryz.func157
abbrev XL(m:aI→Option (aI)):Prop:=∀p_s,FV (m p_s) 158 [.dat (aI.lf1 p_s)] (fun r=>.dat (aI.lf1 r))
abbrev agI(m:(List bH)→Option (List bH)):Prop:=∀p_l,FH (m p_l) 239 [.lf (.rows 22 (p_l.map bH.lf)),.raw (.func (.func 240) #[] #[])] [] (fun r=>.lf (.rows 22 (r.map bH.lf))) (fun _=>[])
abbrev agJ(m:(List aI)→Option (List aI)):Prop:=∀p_l,FH (m p_l) 241 [.lf (.rows 21 (p_l.map aI.lf)),.raw (.func (.func 158) #[] #[])] [] (fun r=>.lf (.rows 21 (r.map aI.lf))) (fun _=>[])
abbrev agK(m:bH→Option (bH)):Prop:=∀p_p,FV (m p_p) 240 [.dat (bH.lf1 p_p)] (fun r=>.dat (bH.lf1 r))
structure XM where
 m1:(p_s:aI)→Option (aI)
 ok1:XL m1
 m2:(p_l:List bH)→Option (List bH)
 ok2:agI m2
 m3:(p_l:List aI)→Option (List aI)
 ok3:agJ m3
 m4:(p_p:bH)→Option (bH)
 ok4:agK m4
def amE(R_:XM)(p_s:aI):Mo (aI):=
 .cl (xu p_s.kP) fun r0 _=>
 .cl (xu p_s.kQ) fun r1 _=>
 .cH [] (agF p_s.gZ) fun r2 _=>
 .cl (JX p_s.dW) fun r3 _=>
 .cH [] (R_.ok2 p_s.cZ) fun r4 _=>
 .cH [] (R_.ok3 p_s.dV) fun r5 _=>
 .ret (aU 1) (aI.mk p_s.ig p_s.iO r0 p_s.iP r1 r2 p_s.jD p_s.jE r3 r4 p_s.kG r5 p_s.fC)
theorem amF(R_:XM):XL fun p_s=>Mo.den (amE R_ p_s):=fun _=>dw Tryz.func158
def amG(R_:XM)(p_l:List bH):Mo (List bH):=
 .nu p_l bH.lf<|
 .iB ((p_l.length:Int)==0) (.ret ⟨[.nil 0 22,.tod 0],[0],[],0⟩ ([]))<|
 .stop
theorem amH(R_:XM):agI fun p_l=>Mo.den (amG R_ p_l):=fun _=>eP Tryz.func239
def amI(R_:XM)(p_l:List aI):Mo (List aI):=
 .nu p_l aI.lf<|
 .iB ((p_l.length:Int)==0) (.ret ⟨[.nil 0 21,.tod 0],[0],[],0⟩ ([]))<|
 .stop
theorem amJ(R_:XM):agJ fun p_l=>Mo.den (amI R_ p_l):=fun _=>eP Tryz.func241
def amK(R_:XM)(p_p:bH):Mo (bH):=
 .say [.order [(true,0),(true,1),(true,2),(true,3),(false,4),(true,5),(false,6)] (some 6) []] ok0<|
 .cl (R_.ok1 p_p.bn) fun r0 _=>
 .ret (aU 1) (bH.mk p_p.fName r0)
theorem amL(R_:XM):agK fun p_p=>Mo.den (amK R_ p_p):=fun _=>dw Tryz.func240
def uN:Nat→XM
 |0=>{ m1:=fun p_s=>none,ok1:=fun _ _ h=>(by cases h),m2:=fun p_l=>none,ok2:=fun _ _ h=>(by cases h),m3:=fun p_l=>none,ok3:=fun _ _ h=>(by cases h),m4:=fun p_p=>none,ok4:=fun _ _ h=>(by cases h) }
 |n_+1=>{ m1:=fun p_s=>Mo.den (amE (uN n_) p_s),ok1:=amF (uN n_),m2:=fun p_l=>Mo.den (amG (uN n_) p_l),ok2:=amH (uN n_),m3:=fun p_l=>Mo.den (amI (uN n_) p_l),ok3:=amJ (uN n_),m4:=fun p_p=>Mo.den (amK (uN n_) p_p),ok4:=amL (uN n_) }
def awG(p_s:aI):Option (aI):=(uN FU).m1 p_s
theorem aqS:XL awG:=(uN FU).ok1
def au1(p_d:bW):Mo (bW):=
 .cH [] (aqR p_d.bJ) fun r0 _=>
 .ask (awG p_d.bn) fun r1 h0=>
 .say [.res (.dat (aI.lf1 r1)),.at_ 0 0,.frz 2] (ok1 (aqS _ _ h0))<|
 .ret (aU 1) (bW.mk p_d.fName r0 r1 p_d.jZ p_d.iI)
def axK(p_d:bW):Option (bW):=Mo.den (au1 p_d)
theorem aqT(p_d:bW):FV (axK p_d) 102 [.dat (bW.lf1 p_d)] (fun r=>.dat (bW.lf1 r)):=dw Tryz.func102
abbrev XO(m:aG→Option (aG)):Prop:=∀p_w,FV (m p_w) 48 [.dat (aG.lf1 p_w)] (fun r=>.dat (aG.lf1 r))
abbrev agL(m:(List aG)→Option (List aG)):Prop:=∀p_l,FH (m p_l) 47 [.lf (.rows 78 (p_l.map aG.lf)),.raw (.func (.func 48) #[] #[])] [] (fun r=>.lf (.rows 78 (r.map aG.lf))) (fun _=>[])
structure amM where
 m1:(p_w:aG)→Option (aG)
 ok1:XO m1
 m2:(p_l:List aG)→Option (List aG)
 ok2:agL m2
def amN(R_:amM)(p_w:aG):Mo (aG):=
 .cl (xu p_w.fZ) fun r0 _=>
 .cl (xu p_w.aW) fun r1 _=>
 .cl (xu p_w.dG) fun r2 _=>
 .cl (aqT p_w.dO) fun r3 _=>
 .cl (aqQ p_w.bf) fun r4 _=>
 .ask (R_.m2 p_w.bP) fun r5 h0=>
 .say [.jm [] (.lf (.rows 78 (r5.map aG.lf))) [],.rows (p_w.dK.map lfI),.at_ 0 0,.frz 2] (okc (R_.ok2 _ _ h0) (ok1 (by simp[lfI,lfK]:p_w.dK.map lfI=[]++(p_w.dK.map lfI))))<|
 .grd ((([]:List Int).length+p_w.dK.length)*8≤140737488355328) fun h1=>
 .say [] (ok1 (cq_ lfI h1))<|
 .ret (aU 1) (aG.mk p_w.aF p_w.fV r0 r1 r2 r3 r4 p_w.mO p_w.dU r5 p_w.dK p_w.gq)
theorem amO(R_:amM):XO fun p_w=>Mo.den (amN R_ p_w):=fun _=>dw Tryz.func48
def amP(R_:amM)(p_l:List aG):Mo (List aG):=
 .nu p_l aG.lf<|
 .iB ((p_l.length:Int)==0) (.ret ⟨[.nil 0 78,.tod 0],[0],[],0⟩ ([]))<|
 .stop
theorem amQ(R_:amM):agL fun p_l=>Mo.den (amP R_ p_l):=fun _=>eP Tryz.func47
def Ib:Nat→amM
 |0=>{ m1:=fun p_w=>none,ok1:=fun _ _ h=>(by cases h),m2:=fun p_l=>none,ok2:=fun _ _ h=>(by cases h) }
 |n_+1=>{ m1:=fun p_w=>Mo.den (amN (Ib n_) p_w),ok1:=amO (Ib n_),m2:=fun p_l=>Mo.den (amP (Ib n_) p_l),ok2:=amQ (Ib n_) }
def awH(p_w:aG):Option (aG):=(Ib FU).m1 p_w
theorem aqU:XO awH:=(Ib FU).ok1
def aiy(p_w:aG):Mo (Bool):=
 .iG 8003 (decide ((2:Int)≤p_w.aF)) (.rt [1,16] 1 (decide ((p_w.aF:Int)≤7)))<|
 .stop
def au2(p_w:aG):Mo (List aG):=
 .iB (p_w.aF==8) (.stop)<|
 .jk Tryz.f21 0 [1,1,0,0] 13 (fun r_=>⟨[(1,.ptr 0 0),(16,.b_ r_)],[dP p_w]⟩) ⟨[(1,.ptr 0 0)],[dP p_w]⟩ (aiy p_w) fun r0=>
 .iB (r0) (.ask (awH p_w) fun r1 h0=>
 .say [.res (.dat (aG.lf1 r1)),.at_ 0 0,.yg 1 ([r1].map aG.lf)] (okc (aqU _ _ h0) (ok1 (by simp[aG.aX]:[r1].map aG.lf=[(aG.lf1 r1)])))<|
 .ret (aU 1) ([r1]))<|
 .stop
def awI(p_w:aG):Option (List aG):=Mo.den (au2 p_w)
theorem aqV(p_w:aG):FV (awI p_w) 21 [.dat (aG.lf1 p_w)] (fun r=>.lf (.rows 78 (r.map aG.lf))):=dw Tryz.func21
def au3(p_v:ah):Mo (Bool):=
 .iB (p_v.aF==0) (.stop)<|
 .cl (o9 p_v) fun r0 _=>
 .ret (aU 1) (r0)
def axL(p_v:ah):Option (Bool):=Mo.den (au3 p_v)
theorem aqW(p_v:ah):FV (axL p_v) 104 [.dat (ah.lf1 p_v)] .b_:=dw Tryz.func104
abbrev agM(m:ah→Option (List Int)):Prop:=∀p_v,FH (m p_v) 105 [.raw (.slice none 0 0),.dat (ah.lf1 p_v)] [] (fun _=>.own 0) (fun r=>[.row 5 1 (r.map (lfK .u8))])
abbrev XP(m:ah→(List Int)→Option (List Int)):Prop:=∀p_v p_s0,FH (m p_v p_s0) 105 [.own 0,.dat (ah.lf1 p_v)] [.row 5 1 (p_s0.map (lfK .u8))] (fun _=>.own 1) (fun r=>[.dead,.row 5 1 (r.map (lfK .u8))])
structure Ju where
 m1:(p_v:ah)→Option (List Int)
 ok1:agM m1
 m2:(p_v:ah)→(p_s0:List Int)→Option (List Int)
 ok2:XP m2
def aef(R_:Ju)(p_v:ah):Mo (((List Int))):=
 .stop
def amR(R_:Ju)(p_v:ah):Mo (List Int):=
 .say [.rows ([IntKind.wrap .u8 p_v.aF].map (lfK .u8))] (ok1 (by simp[lfI,lfK]:[IntKind.wrap .u8 p_v.aF].map (lfK .u8)=[]++[((lfK .u8) (IntKind.wrap .u8 p_v.aF))]))<|
 .grd ((([]:List Int).length+[IntKind.wrap .u8 p_v.aF].length)*1≤140737488355328) fun h0=>
 .say [] (ok1 (by first|(simp;done)|simpa using h0:(([]:List (List Lf)).length+[((lfK .u8) (IntKind.wrap .u8 p_v.aF))].length)*1≤140737488355328))<|
 .jy [.kill 1] Tryz.f105 0 [1,1,0,1] 6 (.normal) (fun r_=>⟨[(0,.own 2)],[.dead,.dead,.row 5 1 (r_.map (lfK .u8))]⟩) ⟨[(0,.own 2),(3,.ptr 0 0),(19,.i_ p_v.aF)],[aZ p_v,.dead,.row 5 1 ([IntKind.wrap .u8 p_v.aF].map (lfK .u8))]⟩ (aef R_ p_v) fun r0=>
 .ret ⟨[.mvn 2],[0],[(3,0)],1⟩ (r0)
theorem amS(R_:Ju):agM fun p_v=>Mo.den (amR R_ p_v):=fun _=>eP Tryz.func105
def amT(R_:Ju)(p_s0:List Int)(p_v:ah):Mo (Bool):=
 .iB (p_v.aF==3) (.rt [0,3,19,20] 4 (p_v.aF==3))<|
 .iB (p_v.aF==9) (.stop)<|
 .rt [0,3,19,20] 4 (p_v.aF==10)
def amU(R_:Ju)(p_v:ah):(Int×(List Int))→Mo ((Int×(List Int))⊕((List Int))):=fun(v0,l0)=>
 .iB (decide ((0:Int)≤v0)) (.say [.rows ((l0++[IntKind.wrap .u8 (yh .u64 (eU .xor .u64 (IntKind.wrap .u64 p_v.eF) 9223372036854775808) v0)]).map (lfK .u8))] ok0<|
 .grd ((0:Int)≤v0) fun h0=>
 .say [] (okc h0 (ok1 (by simp[lfI,lfK]:(l0++[IntKind.wrap .u8 (yh .u64 (eU .xor .u64 (IntKind.wrap .u64 p_v.eF) 9223372036854775808) v0)]).map (lfK .u8)=(l0.map (lfK .u8))++[((lfK .u8) (IntKind.wrap .u8 (yh .u64 (eU .xor .u64 (IntKind.wrap .u64 p_v.eF) 9223372036854775808) v0)))])))<|
 .grd ((l0.length+[IntKind.wrap .u8 (yh .u64 (eU .xor .u64 (IntKind.wrap .u64 p_v.eF) 9223372036854775808) v0)].length)*1≤140737488355328) fun h1=>
 .say [] (ok1 (by simpa using h1:((l0.map (lfK .u8)).length+[((lfK .u8) (IntKind.wrap .u8 (yh .u64 (eU .xor .u64 (IntKind.wrap .u64 p_v.eF) 9223372036854775808) v0)))].length)*1≤140737488355328))<|
 .ret ⟨[],[0,5,6],[(5,3)],4⟩ (.inl (IntKind.wrap .i64 (v0-8),l0++[IntKind.wrap .u8 (yh .u64 (eU .xor .u64 (IntKind.wrap .u64 p_v.eF) 9223372036854775808) v0)])))<|
 .rt [0] 4 (.inr (l0))
def aiz(R_:Ju)(p_s0:List Int)(p_v:ah):Mo (Bool):=
 .iB (p_v.aF==4) (.rt [0,3,19,39] 4 (p_v.aF==4))<|
 .stop
def aiA(R_:Ju)(l0:List Int)(p_v:ah)(v0:Int):Mo (((List Int))):=
 .ask (jY p_v.fText v0) fun b0 h0=>
 .say [.byt b0,.rows ((l0++[(b0.toNat:Int)]).map (lfK .u8))] (okc (eY h0) (ok1 (by simp[lfI,lfK]:(l0++[(b0.toNat:Int)]).map (lfK .u8)=(l0.map (lfK .u8))++[((lfK .u8) (b0.toNat:Int))])))<|
 .grd ((l0.length+[(b0.toNat:Int)].length)*1≤140737488355328) fun h1=>
 .say [] (ok1 (by simpa using h1:((l0.map (lfK .u8)).length+[((lfK .u8) (b0.toNat:Int))].length)*1≤140737488355328))<|
 .ask (jY p_v.fText v0) fun b1 h2=>
 .say [.byt b1] (ok1 (eY h2))<|
 .iB ((b1.toNat:Int)==0) (.stop)<|
 .ret ⟨[],[0,3,45,46],[(5,3)],4⟩ (l0++[(b0.toNat:Int)])
def aiB(R_:Ju)(p_v:ah):(Int×(List Int))→Mo ((Int×(List Int))⊕((List Int))):=fun(v0,l0)=>
 .iB (decide ((v0:Int)<(p_v.fText.size:Int))) (.jk Tryz.f105 1 [1,1,0,1,0,1,1,1,0,0,1,0,0,1,1,0] 14 (fun r_=>⟨[(0,.own 3),(3,.ptr 1 0),(45,.i_ (p_v.fText.size:Int)),(46,.i_ v0)],[.dead,aZ p_v,.dead,.row 5 1 (r_.map (lfK .u8))]⟩) ⟨[(0,.own 3),(3,.ptr 1 0),(45,.i_ (p_v.fText.size:Int)),(46,.i_ v0)],[.dead,aZ p_v,.dead,.row 5 1 (l0.map (lfK .u8))]⟩ (aiA R_ l0 p_v v0) fun r0=>
 .rt [0,3,45,46] 4 (.inl (IntKind.wrap .i64 (v0+1),r0)))<|
 .ret ⟨[.kill 1],[0],[],4⟩ (.inr (l0))
def aiC(R_:Ju)(p_s0:List Int)(p_v:ah):Mo (((List Int))):=
 .jk Tryz.f105 1 [1,1,0,1,0,0,1] 1 (fun r_=>⟨[(0,.own 3),(3,.ptr 1 0),(19,.i_ p_v.aF),(20,.b_ r_)],[.dead,aZ p_v,.dead,.row 5 1 ((p_s0++[IntKind.wrap .u8 p_v.aF]).map (lfK .u8))]⟩) ⟨[(0,.own 3),(3,.ptr 1 0),(19,.i_ p_v.aF),(20,.lf (.bool (p_v.aF==3)))],[.dead,aZ p_v,.dead,.row 5 1 ((p_s0++[IntKind.wrap .u8 p_v.aF]).map (lfK .u8))]⟩ (amT R_ p_s0 p_v) fun r0=>
 .iB (r0) (.l1y [.kill 1] Tryz.f105 1 [1,1,0,1,0,1,0,1,1,0] 0 (.exit 1) (fun(v0,l0)=>⟨[(0,.own 3),(5,.lf (.int .u64 (eU .xor .u64 (IntKind.wrap .u64 p_v.eF) 9223372036854775808))),(6,.i_ v0)],[.dead,.dead,.dead,.row 5 1 (l0.map (lfK .u8))]⟩) (fun r_=>⟨[(0,.own 3)],[.dead,.dead,.dead,.row 5 1 (r_.map (lfK .u8))]⟩) (amU R_ p_v) (56,(p_s0++[IntKind.wrap .u8 p_v.aF])) fun r1=>
 .rt [0] 4 (r1))<|
 .jk Tryz.f105 1 [1,1,0,1,0,1,1,0,1] 1 (fun r_=>⟨[(0,.own 3),(3,.ptr 1 0),(19,.i_ p_v.aF),(39,.b_ r_)],[.dead,aZ p_v,.dead,.row 5 1 ((p_s0++[IntKind.wrap .u8 p_v.aF]).map (lfK .u8))]⟩) ⟨[(0,.own 3),(3,.ptr 1 0),(19,.i_ p_v.aF),(39,.lf (.bool (p_v.aF==4)))],[.dead,aZ p_v,.dead,.row 5 1 ((p_s0++[IntKind.wrap .u8 p_v.aF]).map (lfK .u8))]⟩ (aiz R_ p_s0 p_v) fun r2=>
 .iB (r2) (.l1 Tryz.f105 1 [1,1,0,1,0,1,1,1,0,0,1,0] 0 (.exit 3) (fun(v1,l2)=>⟨[(0,.own 3),(3,.ptr 1 0),(45,.i_ (p_v.fText.size:Int)),(46,.i_ v1)],[.dead,aZ p_v,.dead,.row 5 1 (l2.map (lfK .u8))]⟩) (fun r_=>⟨[(0,.own 3)],[.dead,.dead,.dead,.row 5 1 (r_.map (lfK .u8))]⟩) (aiB R_ p_v) (0,(p_s0++[IntKind.wrap .u8 p_v.aF])) fun r3=>
 .say [.rows ((r3++[(0:Int),(0:Int)]).map (lfK .u8))] (ok1 (by simp[lfI,lfK]:(r3++[(0:Int),(0:Int)]).map (lfK .u8)=(r3.map (lfK .u8))++[((lfK .u8) (0:Int)),((lfK .u8) (0:Int))]))<|
 .grd ((r3.length+[(0:Int),(0:Int)].length)*1≤140737488355328) fun h0=>
 .say [] (ok1 (by simpa using h0:((r3.map (lfK .u8)).length+[((lfK .u8) (0:Int)),((lfK .u8) (0:Int))].length)*1≤140737488355328))<|
 .ret ⟨[],[0],[(5,3)],4⟩ (r3++[(0:Int),(0:Int)]))<|
 .stop
def asc(R_:Ju)(p_v:ah)(p_s0:List Int):Mo (List Int):=
 .say [.rows ((p_s0++[IntKind.wrap .u8 p_v.aF]).map (lfK .u8))] (ok1 (by simp[lfI,lfK]:(p_s0++[IntKind.wrap .u8 p_v.aF]).map (lfK .u8)=(p_s0.map (lfK .u8))++[((lfK .u8) (IntKind.wrap .u8 p_v.aF))]))<|
 .grd ((p_s0.length+[IntKind.wrap .u8 p_v.aF].length)*1≤140737488355328) fun h0=>
 .say [] (ok1 (by simpa using h0:((p_s0.map (lfK .u8)).length+[((lfK .u8) (IntKind.wrap .u8 p_v.aF))].length)*1≤140737488355328))<|
 .jy [.kill 2] Tryz.f105 1 [1,1,0,1] 6 (.normal) (fun r_=>⟨[(0,.own 3)],[.dead,.dead,.dead,.row 5 1 (r_.map (lfK .u8))]⟩) ⟨[(0,.own 3),(3,.ptr 1 0),(19,.i_ p_v.aF)],[.dead,aZ p_v,.dead,.row 5 1 ((p_s0++[IntKind.wrap .u8 p_v.aF]).map (lfK .u8))]⟩ (aiC R_ p_s0 p_v) fun r0=>
 .ret ⟨[.mvn 3],[0],[(4,1)],2⟩ (r0)
theorem aqX(R_:Ju):XP fun p_v p_s0=>Mo.den (asc R_ p_v p_s0):=fun _ _=>eP Tryz.func105
def Ic:Nat→Ju
 |0=>{ m1:=fun p_v=>none,ok1:=fun _ _ h=>(by cases h),m2:=fun p_v p_s0=>none,ok2:=fun _ _ _ h=>(by cases h) }
 |n_+1=>{ m1:=fun p_v=>Mo.den (amR (Ic n_) p_v),ok1:=amS (Ic n_),m2:=fun p_v p_s0=>Mo.den (asc (Ic n_) p_v p_s0),ok2:=aqX (Ic n_) }
def Q73(p_v:ah)(p_s0:List Int):Option (List Int):=(Ic FU).m2 p_v p_s0
theorem au4:XP Q73:=(Ic FU).ok2
def aaD(l0:List Int)(p_desc:List Bool)(p_l:List ah)(v0:Int):Mo (Unit⊕((List Int))):=
 .gx ah.aX p_l v0 fun x0 _=>
 .cl (aqW x0) fun r0 _=>
 .iB (!r0) (.stop)<|
 .say [.num l0.length,.at_ 22 2,.tod 29] (ok1 (by simp:l0.length=(l0.map (lfK .u8)).length))<|
 .cH [0] (au4 x0 l0) fun r1 _=>
 .ask (mg p_desc v0) fun x1 h0=>
 .say [.row (lfB x1)] (ok1 (iy (fun _=>rfl) h0:(0:Int)≤v0∧(p_desc.map lfB)[v0.toNat]?=some (lfB x1)))<|
 .iB (x1) (.stop)<|
 .ret ⟨[.kill 1],[1,6,16,17,18],[(2,0)],3⟩ (.inr (r1))
def amV(l0:List Int)(p_desc:List Bool)(p_l:List ah)(v0:Int):Option (Unit⊕((List Int))):=Mo.den (aaD l0 p_desc p_l v0)
def NM(r_:Unit⊕((List Int))):Exit:=match r_ with
 |.inl o_=>.ret
 |.inr (o_)=>.normal
def NP(p_desc:List Bool)(p_l:List ah)(v0:Int)(r_:Unit⊕((List Int))):St:=match r_ with
 |.inl o_=>⟨[(4,.lf (.str ⟨#[]⟩)),(5,.i_ 8)],[.dead]⟩
 |.inr (o_)=>⟨[(1,.lf (.rows 1 (p_desc.map lfB))),(6,.own 0),(16,.lf (.rows 5 (p_l.map ah.lf))),(17,.i_ (p_l.length:Int)),(18,.i_ v0)],[.row 5 1 (o_.map (lfK .u8)),.dead,.dead]⟩
theorem amW{l0:List Int}{p_desc:List Bool}{p_l:List ah}{v0:Int}{r_:Unit⊕((List Int))}(h:amV l0 p_desc p_l v0=some r_):Ph Tryz.f50 0 [1,1,1,0,1,0,0,1,1,0] (NM r_) (NP p_desc p_l v0 r_) ⟨[(1,.lf (.rows 1 (p_desc.map lfB))),(6,.own 0),(16,.lf (.rows 5 (p_l.map ah.lf))),(17,.i_ (p_l.length:Int)),(18,.i_ v0)],[.row 5 1 (l0.map (lfK .u8))]⟩:=
 CV oP (aaD l0 p_desc p_l v0) NM (NP p_desc p_l v0) (by kernel_rfl) h
def SH(p_desc:List Bool)(p_l:List ah):(Int×(List Int))→Mo ((Int×(List Int))⊕(Unit⊕((List Int)))):=fun(v0,l0)=>
 .iB (decide ((v0:Int)<(p_l.length:Int))) (.lI (amV l0 p_desc p_l v0) (fun _ _=>
 .stop) fun o0 h0=>
 .say [.pt_ 8 [1,6,16,17,18] 1 (NM (.inr (o0))) (NP p_desc p_l v0 (.inr (o0)))] (ok1 (amW h0))<|
 .rt [1,6,16,17,18] 1 (.inl (IntKind.wrap .i64 (v0+1),o0)))<|
 .rt [6] 1 (.inr (.inr (l0)))
def agN(p_desc:List Bool)(p_l:List ah)(v0:Int)(l0:List Int):Option (Unit⊕((List Int))):=bV (fun v_=>(SH p_desc p_l v_).den) FU (v0,l0)
def SI(p_desc:List Bool)(p_l:List ah):(Int×(List Int))→St:=fun(v0,l0)=>⟨[(1,.lf (.rows 1 (p_desc.map lfB))),(6,.own 0),(16,.lf (.rows 5 (p_l.map ah.lf))),(17,.i_ (p_l.length:Int)),(18,.i_ v0)],[.row 5 1 (l0.map (lfK .u8))]⟩
def Ie(r_:Unit⊕((List Int))):Exit:=match r_ with
 |.inl o_=>.ret
 |.inr (o_)=>.exit 0
def Ba  (r_:Unit⊕((List Int))):St:=match r_ with
 |.inl o_=>⟨[(4,.lf (.str ⟨#[]⟩)),(5,.i_ 8)],[.dead]⟩
 |.inr (o_)=>⟨[(6,.own 0)],[.row 5 1 (o_.map (lfK .u8))]⟩
theorem aiD{p_desc:List Bool}{p_l:List ah}{v0:Int}{l0:List Int}{r_:Unit⊕((List Int))}(h:agN p_desc p_l v0 l0=some r_):Ph Tryz.f50 0 [1,1,1,0,1,0] (Ie r_) (Ba r_) (SI p_desc p_l (v0,l0)):=
 acF oP (body:=(Code.sub (bodyC Tryz.f50) [1,1,1,0,1,0,0])) (by kernel_rfl) (SH p_desc p_l) (SI p_desc p_l) Ie Ba (fun r_=>by rcases r_ with _|_<;>rfl) (fun v_=>by kernel_rfl) h
def awJ(p_l:List ah)(p_desc:List Bool):Mo (ByteArray×Int):=
 .nu p_l ah.lf<|
 .nu p_desc lfB<|
 .iB ((p_l.length:Int) != (p_desc.length:Int)) (.stop)<|
 .say [.num p_l.length] (okc (ln_ p_l ah.lf) (ok1 (by simp[lfI,lfK]:(([]:List Int).map (lfK .u8))=[])))<|
 .lI (agN p_desc p_l 0 ([]:List Int)) (fun _ _=>
 .stop) fun o0 h0=>
 .say [.part [.uw 6 5 1,.mF 0 (([]:List Int).map (lfK .u8))] 0 [1,6,16,17,18] 1 (Ie (.inr (o0))) (Ba (.inr (o0))).T (Ba (.inr (o0))).H,.nums o0] (okc (aiD h0) (ok1 (by simp[lfI,lfK]:(o0.map (lfK .u8))=o0.map fun n=>[Lf.int .u8 n])))<|
 .ret (aU 2) (strOfNums o0,0)
def Q42(p_l:List ah)(p_desc:List Bool):Option (ByteArray×Int):=Mo.den (awJ p_l p_desc)
theorem au5(p_l:List ah)(p_desc:List Bool):FV (Q42 p_l p_desc) 50 [.lf (.rows 5 (p_l.map ah.lf)),.lf (.rows 1 (p_desc.map lfB))] (fun r=>.tup [.lf (.str r.1),.i_ r.2]):=dw Tryz.func50
def aiE(p_w:aG):Mo (Bool):=
 .iG 6003 (p_w.aF==8) (.stop)<|
 .rt [1,3,19] 2 (p_w.aF==9)
def aiF(p_w:aG)(r0:Bool):Mo (((List aG))):=
 .iB (r0) (.stop)<|
 .say [] (ok1 (by simp[aG.aX]:[p_w].map aG.lf=[(aG.lf1 p_w)]))<|
 .ret ⟨[.yg 1 ([p_w].map aG.lf),.kill 0],[3],[],2⟩ ([p_w])
def aeg(l0:List ByteArray)(r0:((List aG)))(v0:Int)(x0:aG):Mo (Bool):=
 .iG 18003 (x0.aF != 2) (.stop)<|
 .rt [4,6,22,23,24,35] 4 (false)
def aeh(l0:List ByteArray)(r0:((List aG)))(v0:Int):Mo (((List ByteArray))):=
 .gx aG.aX r0 v0 fun x0 _=>
 .jk Tryz.f24 0 [1,1,1,1,0,1,0,0,1,1,0,0,1,0,0] 23 (fun r_=>⟨[(4,.own 2),(6,.ptr 3 0),(22,.lf (.rows 78 (r0.map aG.lf))),(23,.i_ (r0.length:Int)),(24,.i_ v0),(35,.b_ r_)],[.dead,.dead,.row 9 1 (l0.map lfS),.box 49 (.agg ((aG.lf1 x0).map AV.lf))]⟩) ⟨[(4,.own 2),(6,.ptr 3 0),(22,.lf (.rows 78 (r0.map aG.lf))),(23,.i_ (r0.length:Int)),(24,.i_ v0)],[.dead,.dead,.row 9 1 (l0.map lfS),.box 49 (.agg ((aG.lf1 x0).map AV.lf))]⟩ (aeg l0 r0 v0 x0) fun r1=>
 .iB (r1) (.stop)<|
 .say [.at_ 22 5,.yg 5 ([ah.mk 4 0 x0.fV [] [],x0.fZ].map ah.lf),.yg 6 ([false,false].map lfB)] (okc (by simp[ah.aX]:[ah.mk 4 0 x0.fV [] [],x0.fZ].map ah.lf=[(ah.lf1 (ah.mk 4 0 x0.fV [] [])),(ah.lf1 x0.fZ)]) (ok1 (by simp[lfB]:[false,false].map lfB=[(lfB false),(lfB false)])))<|
 .cl (au5 [ah.mk 4 0 x0.fV [] [],x0.fZ] [false,false]) fun r2 _=>
 .iB (r2.2==0) (.say [.rows ((l0++[r2.1]).map lfS)] (ok1 (by simp[lfS]:(l0++[r2.1]).map lfS=(l0.map lfS)++[(lfS r2.1)]))<|
 .grd ((l0.length+[r2.1].length)*16≤140737488355328) fun h0=>
 .say [] (ok1 (cp_ lfS h0))<|
 .ret ⟨[],[4,22,23,24],[(8,2)],3⟩ (l0++[r2.1]))<|
 .stop
def aei(r0:((List aG))):(Int×(List ByteArray))→Mo ((Int×(List ByteArray))⊕((List ByteArray))):=fun(v0,l0)=>
 .iB (decide ((v0:Int)<(r0.length:Int))) (.jk Tryz.f24 0 [1,1,1,1,0,1,0,0,1,1,0] 8 (fun r_=>⟨[(4,.own 2),(22,.lf (.rows 78 (r0.map aG.lf))),(23,.i_ (r0.length:Int)),(24,.i_ v0)],[.dead,.dead,.row 9 1 (r_.map lfS)]⟩) ⟨[(4,.own 2),(22,.lf (.rows 78 (r0.map aG.lf))),(23,.i_ (r0.length:Int)),(24,.i_ v0)],[.dead,.dead,.row 9 1 (l0.map lfS)]⟩ (aeh l0 r0 v0) fun r1=>
 .rt [4,22,23,24] 3 (.inl (IntKind.wrap .i64 (v0+1),r1)))<|
 .rt [4] 3 (.inr (l0))
def au6(p_w:aG):Mo (List ByteArray):=
 .jk Tryz.f24 0 [1,1,0,0] 11 (fun r_=>⟨[(1,.ptr 0 0),(3,.own 1),(19,.b_ r_)],[dP p_w,.row 49 78 [(aG.lf1 p_w)]]⟩) ⟨[(1,.ptr 0 0),(3,.own 1)],[dP p_w,.row 49 78 [(aG.lf1 p_w)]]⟩ (aiE p_w) fun r0=>
 .jk Tryz.f24 0 [1,1,0,1] 1 (fun r_=>⟨[(3,.lf (.rows 78 (r_.map aG.lf)))],[.dead,.dead]⟩) ⟨[(1,.ptr 0 0),(3,.own 1),(19,.b_ r0)],[dP p_w,.row 49 78 [(aG.lf1 p_w)]]⟩ (aiF p_w r0) fun r1=>
 .say [.num r1.length] (okc (ln_ r1 aG.lf) (ok1 (by simp[lfS]:(([]:List ByteArray).map lfS)=[])))<|
 .l1y [.uw 4 9 1,.mF 2 (([]:List ByteArray).map lfS)] Tryz.f24 0 [1,1,1,1,0,1,0] 0 (.exit 0) (fun(v0,l0)=>⟨[(4,.own 2),(22,.lf (.rows 78 (r1.map aG.lf))),(23,.i_ (r1.length:Int)),(24,.i_ v0)],[.dead,.dead,.row 9 1 (l0.map lfS)]⟩) (fun r_=>⟨[(4,.own 2)],[.dead,.dead,.row 9 1 (r_.map lfS)]⟩) (aei r1) (0,([]:List ByteArray)) fun r2=>
 .cH [2] (aoU r2) fun r3 _=>
 .ask (awg r3) fun r4 h0=>
 .say [.jm [2] (.own 1) [.dead,.row 9 1 (r4.map lfS)],.at_ 0 0,.frz 3] (ok1 (aoV _ _ h0))<|
 .ret (aU 1) (r4)
def awK(p_w:aG):Option (List ByteArray):=Mo.den (au6 p_w)
theorem aqY(p_w:aG):FV (awK p_w) 24 [.dat (aG.lf1 p_w)] (fun r=>.lf (.rows 1 (r.map lfS))):=dw Tryz.func24
def aiG(p_a:bY)(p_b:bY):Mo (Bool):=
 .iG 4005 (decide ((p_b.rH:Int)<p_a.rH)) (.stop)<|
 .iG 4011 (p_a.rH==p_b.rH) (.ret ⟨[.kill 0,.kill 1],[4,23],[],2⟩ (decide ((p_b.dU:Int)≤p_a.dU)))<|
 .stop
def aiH(r0:Bool):Mo (Unit):=
 .rt [4] 2 ()
def au7(p_a:bY)(p_b:bY):Mo (Bool):=
 .sk Tryz.f19 0 [1,0] 0 19 1 (fun r_=>⟨[(4,.b_ false),(23,.b_ r_)],[.dead,.dead]⟩) ⟨[(2,.ptr 0 0),(3,.ptr 1 0),(4,.b_ false)],[oU p_a,oU p_b]⟩ (aiG p_a p_b) fun r0=>
 .sk Tryz.f19 0 [1,0] 19 1 1 (fun r_=>⟨[(4,.b_ r0)],[.dead,.dead]⟩) ⟨[(4,.b_ false),(23,.b_ r0)],[.dead,.dead]⟩ (aiH r0) fun r1=>
 .ret (aU 1) (r0)
def axM(p_a:bY)(p_b:bY):Option (Bool):=Mo.den (au7 p_a p_b)
theorem agO(p_a:bY)(p_b:bY):FV (axM p_a p_b) 19 [.dat (bY.lf1 p_a),.dat (bY.lf1 p_b)] .b_:=dw Tryz.func19
theorem axN:VH (opsOf (Code.sub (bodyC Tryz.f13) [1,1,1,1,1,1,0])) [(true,0),(false,1),(true,2),(true,3),(false,4),(false,5),(true,6),(true,7),(true,8),(true,9),(false,10),(true,11),(true,12),(true,13),(true,14),(true,15),(true,16),(true,17),(true,18),(true,19),(true,20),(true,21),(true,22),(true,23),(true,24),(true,25),(true,26),(true,27),(false,28),(true,29),(true,30),(true,31),(true,32),(true,33),(true,34),(true,35),(true,36),(true,37),(true,38),(true,39),(true,40),(false,41),(true,42),(true,43),(true,44),(true,45),(true,46),(false,47),(true,48),(true,49),(true,50),(true,51),(true,52),(true,53),(false,54),(true,55),(true,56),(true,57),(true,58),(true,59),(true,60),(false,61),(true,62),(true,63),(true,65),(false,64),(false,66),(true,67),(true,68),(true,69)] none=true:=by kernel_rfl
def au8 :Mo (Bool):=
 .cl (V6 5 1 1) fun r0 _=>
 .cl (JW r0) fun r1 _=>
 .cl (agq r1.1) fun r2 _=>
 .cl (agq ⟨#[]⟩) fun r3 _=>
 .ask (ah7 (bY.mk 1 5 ⟨#[]⟩ 0 (aG.I4 aG.z 1))) fun r4 h0=>
 .say [.res (.tup [.lf (.str r4.1),.i_ r4.2]),.CB [(true,0),(false,1),(true,2),(true,3),(false,4),(false,5),(true,6),(true,7),(true,8),(true,9),(false,10),(true,11),(true,12),(true,13),(true,14),(true,15),(true,16),(true,17),(true,18),(true,19),(true,20),(true,21),(true,22),(true,23),(true,24),(true,25),(true,26),(true,27),(false,28),(true,29),(true,30),(true,31),(true,32),(true,33),(true,34),(true,35),(true,36),(true,37),(true,38),(true,39),(true,40),(false,41),(true,42),(true,43),(true,44),(true,45),(true,46),(false,47),(true,48),(true,49),(true,50),(true,51),(true,52),(true,53),(false,54),(true,55),(true,56),(true,57),(true,58),(true,59),(true,60),(false,61),(true,62),(true,63),(true,65),(false,64),(false,66),(true,67),(true,68),(true,69)] none []] (okc (JW _ _ h0) (ok1 axN))<|
 .cl (JU r0) fun r5 _=>
 .iG 14003 (r5==0) (.cl (V6 5 2 1) fun r6 _=>
 .cl (JU r6) fun r7 _=>
 .iG 14008 (r7==8) (.cl (JU (bY.mk (-1) 0 ⟨#[]⟩ 0 aG.z)) fun r8 _=>
 .iG 14013 (r8==24) (.iG 14017 (r1.2==0) (.iG 14021 (r2.2==0) (.iG 14025 (r3.2==4) (.cl (aqM r2.1 r0) fun r9 _=>
 .iG 14030 (r9) (.iG 14034 (r4.2==0) (.iG 14039 (decide ((5:Int)<(r4.1.size:Int))) (.grd ((0:Int)≤0∧(0:Int)≤5∧5≤(r4.1.size:Int)) fun h1=>
 .say [] (ok1 h1)<|
 .iG 14044 (decide ((r4.1.extract (0:Int).toNat (5:Int).toNat:ByteArray)=(⟨#[2,10,0,0,2]⟩:ByteArray))) (.ask (awI r0.dh) fun r10 h2=>
 .say [.res (.lf (.rows 78 (r10.map aG.lf))),.num r10.length] (okc (aqV _ _ h2) (ok1 (ln_ r10 aG.lf)))<|
 .iG 14051 ((r10.length:Int)==1) (.ask (awK r0.dh) fun r11 h3=>
 .say [.res (.lf (.rows 1 (r11.map lfS))),.num r11.length] (okc (aqY _ _ h3) (ok1 (ln_ r11 lfS)))<|
 .iG 14058 ((r11.length:Int)==1) (.cl (agO r0 r0) fun r12 _=>
 .iG 14063 (r12) (.cl (V6 4 1 1) fun r13 _=>
 .cl (agO r13 r0) fun r14 _=>
 .ret (aU 1) (!r14))<|
 .stop)<|
 .stop)<|
 .stop)<|
 .stop)<|
 .stop)<|
 .stop)<|
 .stop)<|
 .stop)<|
 .stop)<|
 .stop)<|
 .stop)<|
 .stop)<|
 .stop
def awL :Option (Bool):=Mo.den (au8 )
theorem agP:FV (awL ) 13 [] .b_:=dw Tryz.func13
def amX(p_w:aG):Mo (Bool):=
 .nu p_w.bP aG.lf<|
 .ret (aU 1) (decide ((300:Int)<(p_w.bP.length:Int)))
def awM(p_w:aG):Option (Bool):=Mo.den (amX p_w)
theorem aqZ(p_w:aG):FV (awM p_w) 28 [.dat (aG.lf1 p_w)] .b_:=dw Tryz.func28
def EJ(p_s:List aG):(Int)→Mo ((Int)⊕(Int)⊕Unit):=fun(v0)=>
 .iB (decide ((v0:Int)<(p_s.length:Int))) (.gx aG.aX p_s v0 fun x0 _=>
 .cl (aqZ x0) fun r0 _=>
 .iB (r0) (.rt [4] 0 (.inr (.inl (v0))))<|
 .rt [0,1,7,8] 0 (.inl (IntKind.wrap .i64 (v0+1))))<|
 .rt [] 0 (.inr (.inr (())))
def aej(p_s:List aG)(v0:Int):Option ((Int)⊕Unit):=bV (fun v_=>(EJ p_s v_).den) FU (v0)
def ase(p_s:List aG):Mo (Int):=
 .nu p_s aG.lf<|
 .l2m [] Tryz.f55 0 [1,0,1,0] 0 (fun(v0)=>⟨[(0,.lf (.rows 78 (p_s.map aG.lf))),(1,.raw (.func (.func 28) #[] #[])),(7,.i_ (p_s.length:Int)),(8,.i_ v0)],[]⟩) .ret (fun o_=>⟨[(4,.i_ o_)],[]⟩) (.exit 0) (fun _=>⟨[],[]⟩) (aej p_s 0) (EJ p_s) (0) (fun o0=>
 .rt [0] 0 (o0)) fun o1=>
 .rt [0] 0 ((-1))
def Q72(p_s:List aG):Option (Int):=Mo.den (ase p_s)
theorem au9(p_s:List aG):FH (Q72 p_s) 55 [.lf (.rows 78 (p_s.map aG.lf)),.raw (.func (.func 28) #[] #[])] [] .i_ (fun _=>[]):=eP Tryz.func55
def amY(p_s:List aG):Mo (Bool):=
 .cH [] (au9 p_s) fun r0 _=>
 .rt [0] 0 (decide ((0:Int)≤r0))
def awN(p_s:List aG):Option (Bool):=Mo.den (amY p_s)
theorem aq0(p_s:List aG):FH (awN p_s) 27 [.lf (.rows 78 (p_s.map aG.lf)),.raw (.func (.func 28) #[] #[])] [] .b_ (fun _=>[]):=eP Tryz.func27
def amZ(p_e:bY):Mo (Bool):=
 .nu p_e.dh.bP aG.lf<|
 .iG 4005 (decide (((p_e.dh.bP.length:Int):Int)≤300)) (.cH [] (aq0 p_e.dh.bP) fun r0 _=>
 .ret (aU 1) (!r0))<|
 .ret (aU 1) (false)
def ava(p_e:bY):Option (Bool):=Mo.den (amZ p_e)
theorem aq1(p_e:bY):FV (ava p_e) 10 [.dat (bY.lf1 p_e)] .b_:=dw Tryz.func10
def aaE(p_p:List ByteArray):Mo (Bool):=
 .nu p_p lfS<|
 .iG 4003 (decide (((p_p.length:Int):Int)<1)) (.rt [0,11] 0 (true))<|
 .nu p_p lfS<|
 .rt [0,11] 0 (decide ((16:Int)<(p_p.length:Int)))
def aaF(p_p:List ByteArray):(Int)→Mo ((Int)⊕(Unit⊕Unit)):=fun(v0)=>
 .nu p_p lfS<|
 .iB (decide ((v0:Int)<(p_p.length:Int))) (.gx lS_ p_p v0 fun x0 _=>
 .cl (Dh x0) fun r0 _=>
 .iB (!r0) (.rt [2] 0 (.inr (.inl ())))<|
 .rt [0,3] 0 (.inl (IntKind.wrap .i64 (v0+1))))<|
 .rt [] 0 (.inr (.inr (())))
def asf(p_p:List ByteArray):Mo (Bool):=
 .jk Tryz.f63 0 [1,0,0] 9 (fun r_=>⟨[(0,.lf (.rows 1 (p_p.map lfS))),(11,.b_ r_)],[]⟩) ⟨[(0,.lf (.rows 1 (p_p.map lfS)))],[]⟩ (aaE p_p) fun r0=>
 .iB (r0) (.ret (aU 1) (false))<|
 .l2 Tryz.f63 0 [1,1,0,1,0] 0 (fun(v0)=>⟨[(0,.lf (.rows 1 (p_p.map lfS))),(3,.i_ v0)],[]⟩) .ret (fun _=>⟨[(2,.b_ false)],[]⟩) (.exit 0) (fun _=>⟨[],[]⟩) (aaF p_p) (0) (fun o0=>
 .ret (aU 1) (false)) fun o1=>
 .ret (aU 1) (true)
def Q92(p_p:List ByteArray):Option (Bool):=Mo.den (asf p_p)
theorem NQ(p_p:List ByteArray):FV (Q92 p_p) 63 [.lf (.rows 1 (p_p.map lfS))] .b_:=dw Tryz.func63
def am0(p_s:ByteArray):Mo (Bool):=
 .say [.at_ 4 2,.yg 0 ([p_s].map lfS)] (ok1 (by simp[lfS]:[p_s].map lfS=[(lfS p_s)]))<|
 .cl (NQ [p_s]) fun r0 _=>
 .ret (aU 1) (r0)
def avb(p_s:ByteArray):Option (Bool):=Mo.den (am0 p_s)
theorem JY(p_s:ByteArray):FV (avb p_s) 31 [.lf (.str p_s)] .b_:=dw Tryz.func31
def XQ(p_kind:Int):Mo (Bool):=
 .iG 4002 (decide ((2:Int)≤p_kind)) (.ret (aU 1) (decide ((p_kind:Int)≤7)))<|
 .ret (aU 1) (false)
def aq2(p_kind:Int):Option (Bool):=Mo.den (XQ p_kind)
theorem aq3(p_kind:Int):FV (aq2 p_kind) 49 [.i_ p_kind] .b_:=dw Tryz.func49
def XR(p_kind:Int):Mo (Bool):=
 .cl (aq3 p_kind) fun r0 _=>
 .iG 4002 (r0) (.ret (aU 1) (p_kind != 4))<|
 .ret (aU 1) (false)
def aq4(p_kind:Int):Option (Bool):=Mo.den (XR p_kind)
theorem agQ(p_kind:Int):FV (aq4 p_kind) 66 [.i_ p_kind] .b_:=dw Tryz.func66
def XT(p_kind:Int):Mo (Bool):=
 .iG 4002 (p_kind==2) (.ret (aU 1) (true))<|
 .ret (aU 1) (p_kind==3)
def aq5(p_kind:Int):Option (Bool):=Mo.den (XT p_kind)
theorem XU(p_kind:Int):FV (aq5 p_kind) 53 [.i_ p_kind] .b_:=dw Tryz.func53
def SK(p_d:bW):Mo (Bool):=
 .iG 4003 (!decide ((p_d.fName:ByteArray)=(⟨#[]⟩:ByteArray))) (.rt [1,13] 1 (true))<|
 .nu p_d.bJ aS.lf<|
 .rt [1,13] 1 (decide ((0:Int)<(p_d.bJ.length:Int)))
def am1(p_d:bW):Mo (Bool):=
 .jk Tryz.f121 0 [1,0,0] 9 (fun r_=>⟨[(1,.ptr 0 0),(13,.b_ r_)],[oG p_d]⟩) ⟨[(1,.ptr 0 0)],[oG p_d]⟩ (SK p_d) fun r0=>
 .iB (r0) (.ret (aU 1) (false))<|
 .say [.at_ 10 1,.norm 1] ok0<|
 .ask (Q44 p_d (aK.mk ⟨#[]⟩ false true)) fun r1 h0=>
 .say [.jm [1] (.tup []) [eH r1],.at_ 12 1,.tod 18,.norm 2] (ok1 (aeb _ _ _ h0))<|
 .cH [2] (aeb (bW.mk ⟨#[]⟩ [] aI.z 0 0) (aK.mk ⟨#[]⟩ false true)) fun r2 _=>
 .ret (aU 1) (decide ((r1.fS:ByteArray)=(r2.fS:ByteArray)))
def avc(p_d:bW):Option (Bool):=Mo.den (am1 p_d)
theorem aq6(p_d:bW):FV (avc p_d) 121 [.dat (bW.lf1 p_d)] .b_:=dw Tryz.func121
def am2(p_x:aS):Mo (Bool):=
 .say [.at_ 6 1,.norm 1] ok0<|
 .ask (Q36 p_x (aK.mk ⟨#[]⟩ false true)) fun r0 h0=>
 .say [.jm [1] (.tup []) [eH r0],.at_ 8 1,.tod 9,.norm 2] (ok1 (XE _ _ _ h0))<|
 .cH [2] (XE aS.z (aK.mk ⟨#[]⟩ false true)) fun r1 _=>
 .ret (aU 1) (decide ((r0.fS:ByteArray)=(r1.fS:ByteArray)))
def avd(p_x:aS):Option (Bool):=Mo.den (am2 p_x)
theorem aq7(p_x:aS):FV (avd p_x) 122 [.dat (aS.lf1 p_x)] .b_:=dw Tryz.func122
def XV(p_kind:Int):Mo (Bool):=
 .iG 4002 (decide ((9:Int)≤p_kind)) (.ret (aU 1) (decide ((p_kind:Int)≤12)))<|
 .ret (aU 1) (false)
def aq8(p_kind:Int):Option (Bool):=Mo.den (XV p_kind)
theorem agR(p_kind:Int):FV (aq8 p_kind) 67 [.i_ p_kind] .b_:=dw Tryz.func67
def NR(p_kind:Int):Mo (Bool):=
 .iG 4002 (p_kind==8) (.ret (aU 1) (true))<|
 .ret (aU 1) (p_kind==9)
def am3(p_kind:Int):Option (Bool):=Mo.den (NR p_kind)
theorem agS(p_kind:Int):FV (am3 p_kind) 65 [.i_ p_kind] .b_:=dw Tryz.func65
def aaG(p_w:aG):Mo (aS):=
 .iB (p_w.aF==7) (.ret ⟨[.norm 1],[1,3,4],[],2⟩ (aS.P7 p_w.bf ⟨#[]⟩))<|
 .ret ⟨[.norm 1],[1,3,4],[],2⟩ (p_w.bf)
def aaH(p_w:aG)(r0:aS):Mo (Bool):=
 .cl (agQ p_w.aF) fun r1 _=>
 .oV 12002 (r1) [1,3,4,18] 2 (decide ((p_w.fV:ByteArray)=(⟨#[]⟩:ByteArray)))
def SL(p_w:aG)(r0:aS)(r1:Bool):Mo (Bool):=
 .iG 12007 (r1) (.cl (XU p_w.aF) fun r2 _=>
 .iG 12010 (r2) (.rt [1,3,4,37] 2 (true))<|
 .cl (xg p_w.fZ) fun r3 _=>
 .iG 12014 (r3) (.cl (xg p_w.dG) fun r4 _=>
 .aV 12019 (r4) [1,3,4,37] 2 (!p_w.gq))<|
 .rt [1,3,4,37] 2 (false))<|
 .rt [1,3,4,37] 2 (false)
def SN(p_w:aG)(r0:aS)(r1:Bool):Mo (Bool):=
 .iG 12026 (r1) (.iG 12029 (p_w.aF==2) (.rt [1,3,4,46] 2 (true))<|
 .cl (xg p_w.aW) fun r2 _=>
 .rt [1,3,4,46] 2 (r2))<|
 .rt [1,3,4,46] 2 (false)
def SQ(p_w:aG)(r0:aS)(r1:Bool):Mo (Bool):=
 .iG 12035 (r1) (.iG 12038 (p_w.aF==4) (.rt [1,3,4,55] 2 (true))<|
 .cl (aq6 p_w.dO) fun r2 _=>
 .rt [1,3,4,55] 2 (r2))<|
 .rt [1,3,4,55] 2 (false)
def SS(p_w:aG)(r0:aS)(r1:Bool):Mo (Bool):=
 .iG 12044 (r1) (.iG 12047 (p_w.aF==6) (.ret ⟨[.kill 1],[1,3,63],[],2⟩ (true))<|
 .cl (aq7 r0) fun r2 _=>
 .ret ⟨[.kill 1],[1,3,63],[],2⟩ (r2))<|
 .ret ⟨[.kill 1],[1,3,63],[],2⟩ (false)
def SV(p_w:aG)(r0:Bool):Mo (Bool):=
 .iG 12052 (r0) (.cl (agR p_w.aF) fun r1 _=>
 .oV 12055 (r1) [1,3,72] 2 (decide ((p_w.mO:ByteArray)=(⟨#[]⟩:ByteArray))))<|
 .rt [1,3,72] 2 (false)
def Ig(p_w:aG)(r0:Bool):Mo (Bool):=
 .iG 12061 (r0) (.iG 12064 (p_w.aF==10) (.rt [1,3,85] 2 (true))<|
 .oV 12068 (p_w.aF==12) [1,3,85] 2 (p_w.dU==0))<|
 .rt [1,3,85] 2 (false)
def Ih(p_w:aG)(r0:Bool):Mo (Bool):=
 .iG 12074 (r0) (.cl (agS p_w.aF) fun r1 _=>
 .iG 12077 (r1) (.rt [1,3,95] 2 (true))<|
 .nu p_w.bP aG.lf<|
 .rt [1,3,95] 2 ((p_w.bP.length:Int)==0))<|
 .rt [1,3,95] 2 (false)
def Ii(p_w:aG)(r0:Bool):Mo (Bool):=
 .iG 12084 (r0) (.iG 12087 (p_w.aF==12) (.ret ⟨[.kill 0],[105],[],2⟩ (true))<|
 .nu p_w.dK lfI<|
 .ret ⟨[.kill 0],[105],[],2⟩ ((p_w.dK.length:Int)==0))<|
 .ret ⟨[.kill 0],[105],[],2⟩ (false)
def SX(r0:Bool):Mo (Unit):=
 .rt [2] 2 ()
def am4(p_w:aG):Mo (Bool):=
 .jk Tryz.f64 0 [1,1,1,0,1] 1 (fun r_=>⟨[(1,.ptr 0 0),(3,.i_ p_w.aF),(4,.ptr 1 0)],[dP p_w,nS r_]⟩) ⟨[(1,.ptr 0 0),(3,.i_ p_w.aF),(4,.ptr 1 0),(10,.lf (.bool (p_w.aF==7)))],[dP p_w,.box 45 (.agg ((aS.lf1 p_w.bf).map AV.lf))]⟩ (aaG p_w) fun r0=>
 .sf Tryz.f64 0 [1,1,1,1,0] 0 7 5 [(1,.ptr 0 0),(3,.i_ p_w.aF),(4,.ptr 1 0)] [dP p_w,nS r0] 18 (aaH p_w r0) fun r1=>
 .sb Tryz.f64 0 [1,1,1,1,0] 7 19 5 [(1,.ptr 0 0),(3,.i_ p_w.aF),(4,.ptr 1 0)] [dP p_w,nS r0] 18 37 r1 (SL p_w r0 r1) fun r2=>
 .sb Tryz.f64 0 [1,1,1,1,0] 26 9 5 [(1,.ptr 0 0),(3,.i_ p_w.aF),(4,.ptr 1 0)] [dP p_w,nS r0] 37 46 r2 (SN p_w r0 r2) fun r3=>
 .sb Tryz.f64 0 [1,1,1,1,0] 35 9 5 [(1,.ptr 0 0),(3,.i_ p_w.aF),(4,.ptr 1 0)] [dP p_w,nS r0] 46 55 r3 (SQ p_w r0 r3) fun r4=>
 .sk Tryz.f64 0 [1,1,1,1,0] 44 8 5 (fun r_=>⟨[(1,.ptr 0 0),(3,.i_ p_w.aF),(63,.b_ r_)],[dP p_w,.dead]⟩) ⟨[(1,.ptr 0 0),(3,.i_ p_w.aF),(4,.ptr 1 0),(55,.b_ r4)],[dP p_w,nS r0]⟩ (SS p_w r0 r4) fun r5=>
 .sb Tryz.f64 0 [1,1,1,1,0] 52 9 5 [(1,.ptr 0 0),(3,.i_ p_w.aF)] [dP p_w,.dead] 63 72 r5 (SV p_w r5) fun r6=>
 .sb Tryz.f64 0 [1,1,1,1,0] 61 13 5 [(1,.ptr 0 0),(3,.i_ p_w.aF)] [dP p_w,.dead] 72 85 r6 (Ig p_w r6) fun r7=>
 .sb Tryz.f64 0 [1,1,1,1,0] 74 10 5 [(1,.ptr 0 0),(3,.i_ p_w.aF)] [dP p_w,.dead] 85 95 r7 (Ih p_w r7) fun r8=>
 .sk Tryz.f64 0 [1,1,1,1,0] 84 10 5 (fun r_=>⟨[(105,.b_ r_)],[.dead,.dead]⟩) ⟨[(1,.ptr 0 0),(3,.i_ p_w.aF),(95,.b_ r8)],[dP p_w,.dead]⟩ (Ii p_w r8) fun r9=>
 .sk Tryz.f64 0 [1,1,1,1,0] 94 1 5 (fun r_=>⟨[(2,.b_ r9)],[.dead,.dead]⟩) ⟨[(105,.b_ r9)],[.dead,.dead]⟩ (SX r9) fun r10=>
 .ret (aU 1) (r9)
def Q13(p_w:aG):Option (Bool):=Mo.den (am4 p_w)
theorem ave(p_w:aG):FV (Q13 p_w) 64 [.dat (aG.lf1 p_w)] .b_:=dw Tryz.func64
theorem axO:VH (opsOf (Code.sub (bodyC Tryz.f68) [1,0,1,0,0,1,0,0,0])) [(true,0),(true,1),(true,2),(true,3),(true,4),(true,5),(true,6),(true,7),(true,8),(true,9),(true,10),(true,11),(true,12),(true,13),(true,14),(true,15),(true,16),(true,17),(true,18),(true,19),(true,20),(true,21),(true,22),(true,23),(true,24),(true,25),(true,26),(true,27)] none=true:=by kernel_rfl
def aaI(p_l:List Int)(v0:Int):Mo (Bool):=
 .say [.CB [(true,0),(true,1),(true,2),(true,3),(true,4),(true,5),(true,6),(true,7),(true,8),(true,9),(true,10),(true,11),(true,12),(true,13),(true,14),(true,15),(true,16),(true,17),(true,18),(true,19),(true,20),(true,21),(true,22),(true,23),(true,24),(true,25),(true,26),(true,27)] none []] (ok1 axO)<|
 .gx lI_ p_l v0 fun x0 _=>
 .iG 10005 (decide ((x0:Int)<0)) (.rt [0,3,37] 0 (true))<|
 .gx lI_ p_l v0 fun x1 _=>
 .iG 10012 (decide ((8:Int)≤x1)) (.rt [0,3,37] 0 (true))<|
 .iG 10015 (decide ((0:Int)<v0)) (.gx lI_ p_l (IntKind.wrap .i64 (v0-1)) fun x2 _=>
 .gx lI_ p_l v0 fun x3 _=>
 .rt [0,3,37] 0 (decide ((x3:Int)≤x2)))<|
 .rt [0,3,37] 0 (false)
def EK(p_l:List Int):(Int)→Mo ((Int)⊕(Unit⊕Unit)):=fun(v0)=>
 .nu p_l lfI<|
 .iB (decide ((v0:Int)<(p_l.length:Int))) (.jk Tryz.f68 0 [1,0,1,0,0,1,0,0,0] 15 (fun r_=>⟨[(0,.lf (.rows 1 (p_l.map lfI))),(3,.i_ v0),(37,.b_ r_)],[]⟩) ⟨[(0,.lf (.rows 1 (p_l.map lfI))),(3,.i_ v0)],[]⟩ (aaI p_l v0) fun r0=>
 .iB (r0) (.rt [2] 0 (.inr (.inl ())))<|
 .rt [0,3] 0 (.inl (IntKind.wrap .i64 (v0+1))))<|
 .rt [0] 0 (.inr (.inr (())))
def aek(p_l:List Int)(v0:Int):Option (Unit⊕Unit):=bV (fun v_=>(EK p_l v_).den) FU (v0)
def asg(p_l:List Int):Mo (Bool):=
 .l2m [] Tryz.f68 0 [1,0,1,0] 0 (fun(v0)=>⟨[(0,.lf (.rows 1 (p_l.map lfI))),(3,.i_ v0)],[]⟩) .ret (fun _=>⟨[(2,.b_ false)],[]⟩) (.exit 0) (fun _=>⟨[(0,.lf (.rows 1 (p_l.map lfI)))],[]⟩) (aek p_l 0) (EK p_l) (0) (fun o0=>
 .ret (aU 1) (false)) fun o1=>
 .nu p_l lfI<|
 .ret (aU 1) (decide ((0:Int)<(p_l.length:Int)))
def Q78(p_l:List Int):Option (Bool):=Mo.den (asg p_l)
theorem avf(p_l:List Int):FV (Q78 p_l) 68 [.lf (.rows 1 (p_l.map lfI))] .b_:=dw Tryz.func68
def aaJ(p_v:ah):Mo (Bool):=
 .cl (tY p_v) fun r0 _=>
 .aV 4002 (r0) [1,2,9] 1 (p_v.aF != 6)
def aaK(p_v:ah)(r0:Bool):Mo (Bool):=
 .aV 4007 (r0) [1,2,14] 1 (p_v.aF != 1)
def SY(p_v:ah)(r0:Bool):Mo (Bool):=
 .iG 4012 (r0) (.ret ⟨[.kill 0],[2,19],[],1⟩ (p_v.aF != 11))<|
 .ret ⟨[.kill 0],[2,19],[],1⟩ (false)
def ash(p_v:ah):Mo (Bool):=
 .sf Tryz.f69 0 [1,0] 0 7 1 [(1,.ptr 0 0),(2,.b_ false)] [aZ p_v] 9 (aaJ p_v) fun r0=>
 .sb Tryz.f69 0 [1,0] 7 5 1 [(1,.ptr 0 0),(2,.b_ false)] [aZ p_v] 9 14 r0 (aaK p_v r0) fun r1=>
 .sk Tryz.f69 0 [1,0] 12 5 1 (fun r_=>⟨[(2,.b_ false),(19,.b_ r_)],[.dead]⟩) ⟨[(1,.ptr 0 0),(2,.b_ false),(14,.b_ r1)],[aZ p_v]⟩ (SY p_v r1) fun r2=>
 .sk Tryz.f69 0 [1,0] 17 1 1 (fun r_=>⟨[(2,.b_ r2)],[.dead]⟩) ⟨[(2,.b_ false),(19,.b_ r2)],[.dead]⟩ (dQ r2) fun r3=>
 .ret (aU 1) (r2)
def Q77(p_v:ah):Option (Bool):=Mo.den (ash p_v)
theorem avg(p_v:ah):FV (Q77 p_v) 69 [.dat (ah.lf1 p_v)] .b_:=dw Tryz.func69
def S9(p_doc:ah):Mo (Bool):=
 .cl (tY p_doc) fun r0 _=>
 .iG 4003 (!r0) (.rt [1,2,13] 2 (true))<|
 .nu p_doc.aW aJ.lf<|
 .rt [1,2,13] 2 ((p_doc.aW.length:Int)==0)
def Tc(p_doc:ah)(r0:Bool):Mo (Bool):=
 .iG 4009 (r0) (.rt [1,2,21] 2 (true))<|
 .gx aJ.aX p_doc.aW 0 fun x0 _=>
 .rt [1,2,21] 2 (!decide ((x0.fName:ByteArray)=(⟨#[95,105,100]⟩:ByteArray)))
def NS(x0:aJ):Mo (Bool):=
 .oV 10003 (x0.fValue.aF==6) [2,4,35] 3 (x0.fValue.aF==1)
def NT(r0:Bool)(x0:aJ):Mo (Bool):=
 .oV 10008 (r0) [2,4,40] 3 (x0.fValue.aF==11)
def am5(p_doc:ah):Mo (ah×Bool):=
 .sf Tryz.f192 0 [1,0,0] 0 9 1 [(1,.ptr 0 0),(2,.ptr 1 0)] [aZ p_doc,.box 25 (.agg [.i_ 0,.i_ 0,.lf (.str ⟨#[]⟩),.cu 5,.cu 6])] 13 (S9 p_doc) fun r0=>
 .sb Tryz.f192 0 [1,0,0] 9 8 1 [(1,.ptr 0 0),(2,.ptr 1 0)] [aZ p_doc,.box 25 (.agg [.i_ 0,.i_ 0,.lf (.str ⟨#[]⟩),.cu 5,.cu 6])] 13 21 r0 (Tc p_doc r0) fun r1=>
 .iB (r1) (.ret (aU 2) (ah.mk 0 0 ⟨#[]⟩ [] [],false))<|
 .gx aJ.aX p_doc.aW 0 fun x0 _=>
 .sy [.kill 0] Tryz.f192 0 [1,1,1,0,0] 0 8 4 (fun r_=>⟨[(2,.ptr 1 0),(4,.ptr 2 0),(35,.b_ r_)],[.dead,.box 25 (.agg [.i_ 0,.i_ 0,.lf (.str ⟨#[]⟩),.cu 5,.cu 6]),.box 25 (.agg [.i_ x0.fValue.aF,.i_ x0.fValue.eF,.lf (.str x0.fValue.fText),.lf (.rows 5 (x0.fValue.aT.map ah.lf)),.lf (.rows 6 (x0.fValue.aW.map aJ.lf))])]⟩) ⟨[(2,.ptr 1 0),(4,.ptr 2 0)],[.dead,.box 25 (.agg [.i_ 0,.i_ 0,.lf (.str ⟨#[]⟩),.cu 5,.cu 6]),.box 25 (.agg [.i_ x0.fValue.aF,.i_ x0.fValue.eF,.lf (.str x0.fValue.fText),.lf (.rows 5 (x0.fValue.aT.map ah.lf)),.lf (.rows 6 (x0.fValue.aW.map aJ.lf))])]⟩ (NS x0) fun r2=>
 .sb Tryz.f192 0 [1,1,1,0,0] 8 5 4 [(2,.ptr 1 0),(4,.ptr 2 0)] [.dead,.box 25 (.agg [.i_ 0,.i_ 0,.lf (.str ⟨#[]⟩),.cu 5,.cu 6]),.box 25 (.agg [.i_ x0.fValue.aF,.i_ x0.fValue.eF,.lf (.str x0.fValue.fText),.lf (.rows 5 (x0.fValue.aT.map ah.lf)),.lf (.rows 6 (x0.fValue.aW.map aJ.lf))])] 35 40 r2 (NT r2 x0) fun r3=>
 .iB (r3) (.ret (aU 2) (ah.mk 0 0 ⟨#[]⟩ [] [],false))<|
 .ret (aU 2) (x0.fValue,true)
def awO(p_doc:ah):Option (ah×Bool):=Mo.den (am5 p_doc)
theorem aq9(p_doc:ah):FV (awO p_doc) 192 [.dat (ah.lf1 p_doc)] (fun r=>.tup [.dat (ah.lf1 r.1),.b_ r.2]):=dw Tryz.func192
def am6(p_v:ah):Mo (Int×Int):=
 .cl (agz p_v) fun r0 _=>
 .ret (aU 2) ((r0.1.size:Int),r0.2)
def avh(p_v:ah):Option (Int×Int):=Mo.den (am6 p_v)
theorem ara(p_v:ah):FV (avh p_v) 193 [.dat (ah.lf1 p_v)] (fun r=>.tup [.i_ r.1,.i_ r.2]):=dw Tryz.func193
def am7(p_doc:ah):Mo (Int):=
 .cl (aq9 p_doc) fun r0 _=>
 .iB (!r0.2) (.ret (aU 1) (8))<|
 .cl (ara p_doc) fun r1 _=>
 .iB (r1.2 != 0) (.ret (aU 1) (r1.2))<|
 .iB (decide ((16384:Int)<r1.1)) (.ret (aU 1) (2))<|
 .ret (aU 1) (0)
def awP(p_doc:ah):Option (Int):=Mo.den (am7 p_doc)
theorem agT(p_doc:ah):FV (awP p_doc) 124 [.dat (ah.lf1 p_doc)] .i_:=dw Tryz.func124
def am8(p_a:Int)(p_b:Int):Mo (Int):=
 .iB (decide ((p_a:Int)<p_b)) (.ret (aU 1) ((-1)))<|
 .iB (decide ((p_b:Int)<p_a)) (.ret (aU 1) (1))<|
 .ret (aU 1) (0)
def arb(p_a:Int)(p_b:Int):Option (Int):=Mo.den (am8 p_a p_b)
theorem Bc(p_a:Int)(p_b:Int):FV (arb p_a p_b) 194 [.i_ p_a,.i_ p_b] .i_:=dw Tryz.func194
def NU(p_a:ByteArray)(p_b:ByteArray)(v0:Int):Mo (Bool):=
 .aV 6004 (decide ((v0:Int)<(p_a.size:Int))) [0,1,5,15] 0 (decide ((v0:Int)<(p_b.size:Int)))
def EL(p_a:ByteArray)(p_b:ByteArray):(Int)→Mo ((Int)⊕(Int)⊕Unit):=fun(v0)=>
 .jk Tryz.f195 0 [1,0,1,0,0,0,0] 11 (fun r_=>⟨[(0,.lf (.str p_a)),(1,.lf (.str p_b)),(5,.i_ v0),(15,.b_ r_)],[]⟩) ⟨[(0,.lf (.str p_a)),(1,.lf (.str p_b)),(5,.i_ v0)],[]⟩ (NU p_a p_b v0) fun r0=>
 .iB (r0) (.say [.order [(true,0),(true,1),(true,2),(true,3),(true,4),(true,5),(true,6)] none []] ok0<|
 .ask (jY p_a v0) fun b0 h0=>
 .say [.byt b0] (ok1 (eY h0))<|
 .ask (jY p_b v0) fun b1 h1=>
 .say [.byt b1] (ok1 (eY h1))<|
 .iB ((b0.toNat:Int) != (b1.toNat:Int)) (.ask (jY p_a v0) fun b2 h2=>
 .say [] (ok1 (eY h2))<|
 .ask (jY p_b v0) fun b3 h3=>
 .say [] (ok1 (eY h3))<|
 .ask (arb (IntKind.wrap .i64 (b2.toNat:Int)) (IntKind.wrap .i64 (b3.toNat:Int))) fun r1 h4=>
 .say [.jf (.q 0 (.q 1 (.q 2 (.q 3 (.q 4 (.q 5 (.q 6 (.q 7 (.l 8 (.q 9 .fin)))))))))) (some 8) [] [.byt b2,.byt b3,.res (.i_ r1)] [4] 0 [(4,.i_ r1)] []] (okc (Bc _ _ _ h4) (ok1 (rf_ ⟨[(4,.i_ r1)],[]⟩)))<|
 .rt [4] 0 (.inr (.inl (r1))))<|
 .rt [0,1,5] 0 (.inl (IntKind.wrap .i64 (v0+1))))<|
 .rt [0,1] 0 (.inr (.inr (())))
def ael(p_a:ByteArray)(p_b:ByteArray)(v0:Int):Option ((Int)⊕Unit):=bV (fun v_=>(EL p_a p_b v_).den) FU (v0)
def asi(p_a:ByteArray)(p_b:ByteArray):Mo (Int):=
 .l2m [] Tryz.f195 0 [1,0,1,0] 0 (fun(v0)=>⟨[(0,.lf (.str p_a)),(1,.lf (.str p_b)),(5,.i_ v0)],[]⟩) .ret (fun o_=>⟨[(4,.i_ o_)],[]⟩) (.exit 0) (fun _=>⟨[(0,.lf (.str p_a)),(1,.lf (.str p_b))],[]⟩) (ael p_a p_b 0) (EL p_a p_b) (0) (fun o0=>
 .ret (aU 1) (o0)) fun o1=>
 .cl (Bc (p_a.size:Int) (p_b.size:Int)) fun r0 _=>
 .ret (aU 1) (r0)
def Q66(p_a:ByteArray)(p_b:ByteArray):Option (Int):=Mo.den (asi p_a p_b)
theorem am9(p_a:ByteArray)(p_b:ByteArray):FV (Q66 p_a p_b) 195 [.lf (.str p_a),.lf (.str p_b)] .i_:=dw Tryz.func195
end
end Go.Proofs.YtflpefkohpjjpaaGreatDoor
set_option linter.unusedSimpArgs false
set_option linter.unusedVariables false
namespace Go.Proofs.YtflpefkohpjjpaaGreatDoor
open Go.RowKit
set_option maxRecDepth 20000
set_option maxHeartbeats 4000000
noncomputable section
abbrev XW(m:ah→ah→Option (Int)):Prop:=∀p_a p_b,FV (m p_a p_b) 125 [.dat (ah.lf1 p_a),.dat (ah.lf1 p_b)] .i_
structure Jv where
 m1:(p_a:ah)→(p_b:ah)→Option (Int)
 ok1:XW m1
def aaL(R_:Jv)(p_a:ah)(p_b:ah):Mo (Bool):=
 .iB (p_a.aF==3) (.rt [2,3,20,21] 2 (p_a.aF==3))<|
 .iB (p_a.aF==9) (.rt [2,3,20,21] 2 (p_a.aF==9))<|
 .rt [2,3,20,21] 2 (p_a.aF==10)
def aaM(R_:Jv)(p_a:ah)(p_b:ah):Mo (Bool):=
 .iB (p_a.aF==4) (.rt [2,3,20,30] 2 (p_a.aF==4))<|
 .iB (p_a.aF==7) (.rt [2,3,20,30] 2 (p_a.aF==7))<|
 .rt [2,3,20,30] 2 (p_a.aF==8)
def Ij(R_:Jv)(p_a:ah)(p_b:ah)(v0:Int):Mo (Bool):=
 .nu p_a.aT ah.lf<|
 .iG 30005 (decide ((v0:Int)<(p_a.aT.length:Int))) (.nu p_b.aT ah.lf<|
 .rt [2,3,5,52] 2 (decide ((v0:Int)<(p_b.aT.length:Int))))<|
 .rt [2,3,5,52] 2 (false)
def Bd(R_:Jv)(p_a:ah)(p_b:ah):(Int)→Mo ((Int)⊕(Int)⊕Unit):=fun(v0)=>
 .jk Tryz.f125 0 [1,1,0,1,0,1,1,1,1,1,0,0,1,0,0,0,0] 35 (fun r_=>⟨[(2,.ptr 0 0),(3,.ptr 1 0),(5,.i_ v0),(52,.b_ r_)],[aZ p_a,aZ p_b]⟩) ⟨[(2,.ptr 0 0),(3,.ptr 1 0),(5,.i_ v0)],[aZ p_a,aZ p_b]⟩ (Ij R_ p_a p_b v0) fun r0=>
 .iB (r0) (.ask (mg p_a.aT v0) fun x0 h0=>
 .say [] (ok1 (iy ah.aX h0))<|
 .ask (mg p_b.aT v0) fun x1 h1=>
 .say [] (ok1 (iy ah.aX h1))<|
 .ask (R_.m1 x0 x1) fun r1 h2=>
 .say [.jf (.q 0 (.q 1 (.q 2 (.q 3 (.q 4 (.q 5 (.q 6 (.q 7 (.q 8 (.q 9 (.l 10 (.q 11 .fin)))))))))))) (some 10) [] [.row (ah.lf1 x0),.row (ah.lf1 x1),.res (.i_ r1)] [2,3,5,6] 2 [(2,.ptr 0 0),(3,.ptr 1 0),(5,.i_ v0),(6,.i_ r1)] [aZ p_a,aZ p_b]] (okc (R_.ok1 _ _ _ h2) (ok1 (rf_ ⟨[(2,.ptr 0 0),(3,.ptr 1 0),(5,.i_ v0),(6,.i_ r1)],[aZ p_a,aZ p_b]⟩)))<|
 .iB (r1 != 0) (.ret ⟨[.kill 0,.kill 1],[4],[],2⟩ (.inr (.inl (r1))))<|
 .rt [2,3,5] 2 (.inl (IntKind.wrap .i64 (v0+1))))<|
 .rt [2,3] 2 (.inr (.inr (())))
def XY(R_:Jv)(p_a:ah)(p_b:ah)(v0:Int):Option ((Int)⊕Unit):=bV (fun v_=>(Bd R_ p_a p_b v_).den) FU (v0)
def Ik(R_:Jv)(p_a:ah)(p_b:ah)(v0:Int):Mo (Bool):=
 .nu p_a.aW aJ.lf<|
 .iG 46005 (decide ((v0:Int)<(p_a.aW.length:Int))) (.nu p_b.aW aJ.lf<|
 .rt [2,3,7,89] 2 (decide ((v0:Int)<(p_b.aW.length:Int))))<|
 .rt [2,3,7,89] 2 (false)
def Td(R_:Jv)(p_a:ah)(p_b:ah)(r0:Int)(v0:Int):Mo (Int):=
 .iB (r0==0) (.ask (mg p_a.aW v0) fun x0 h0=>
 .say [] (ok1 (iy aJ.aX h0))<|
 .ask (mg p_b.aW v0) fun x1 h1=>
 .say [] (ok1 (iy aJ.aX h1))<|
 .ask (R_.m1 x0.fValue x1.fValue) fun r1 h2=>
 .say [.jf (.q 0 (.q 1 (.q 2 (.q 3 (.q 4 (.q 5 (.q 6 (.q 7 (.q 8 (.q 9 (.q 10 (.q 11 (.l 12 (.q 13 .fin)))))))))))))) (some 12) [] [.row (aJ.lf1 x0),.row (aJ.lf1 x1),.res (.i_ r1)] [2,3,7,8] 2 [(2,.ptr 0 0),(3,.ptr 1 0),(7,.i_ v0),(8,.i_ r1)] [aZ p_a,aZ p_b]] (okc (R_.ok1 _ _ _ h2) (ok1 (rf_ ⟨[(2,.ptr 0 0),(3,.ptr 1 0),(7,.i_ v0),(8,.i_ r1)],[aZ p_a,aZ p_b]⟩)))<|
 .rt [2,3,7,8] 2 (r1))<|
 .rt [2,3,7,8] 2 (r0)
def Bf(R_:Jv)(p_a:ah)(p_b:ah):(Int)→Mo ((Int)⊕(Int)⊕Unit):=fun(v0)=>
 .jk Tryz.f125 0 [1,1,0,1,0,1,1,1,1,1,1,1,0,0,1,0,0,0,0] 51 (fun r_=>⟨[(2,.ptr 0 0),(3,.ptr 1 0),(7,.i_ v0),(89,.b_ r_)],[aZ p_a,aZ p_b]⟩) ⟨[(2,.ptr 0 0),(3,.ptr 1 0),(7,.i_ v0)],[aZ p_a,aZ p_b]⟩ (Ik R_ p_a p_b v0) fun r0=>
 .iB (r0) (.ask (mg p_a.aW v0) fun x0 h0=>
 .say [] (ok1 (iy aJ.aX h0))<|
 .ask (mg p_b.aW v0) fun x1 h1=>
 .say [] (ok1 (iy aJ.aX h1))<|
 .ask (Q66 x0.fName x1.fName) fun r1 h2=>
 .say [.jf (.q 0 (.q 1 (.q 2 (.q 3 (.q 4 (.q 5 (.q 6 (.q 7 (.q 8 (.q 9 (.q 10 (.q 11 (.l 12 (.q 13 .fin)))))))))))))) (some 12) [] [.row (aJ.lf1 x0),.row (aJ.lf1 x1),.res (.i_ r1)] [2,3,7,8] 2 [(2,.ptr 0 0),(3,.ptr 1 0),(7,.i_ v0),(8,.i_ r1)] [aZ p_a,aZ p_b]] (okc (am9 _ _ _ h2) (ok1 (rf_ ⟨[(2,.ptr 0 0),(3,.ptr 1 0),(7,.i_ v0),(8,.i_ r1)],[aZ p_a,aZ p_b]⟩)))<|
 .jk Tryz.f125 0 [1,1,0,1,0,1,1,1,1,1,1,1,0,0,1,0,0,1,0,0,1,0,1] 1 (fun r_=>⟨[(2,.ptr 0 0),(3,.ptr 1 0),(7,.i_ v0),(8,.i_ r_)],[aZ p_a,aZ p_b]⟩) ⟨[(2,.ptr 0 0),(3,.ptr 1 0),(7,.i_ v0),(8,.i_ r1),(106,.lf (.bool (r1==0)))],[aZ p_a,aZ p_b]⟩ (Td R_ p_a p_b r1 v0) fun r2=>
 .iB (r2 != 0) (.ret ⟨[.kill 0,.kill 1],[4],[],2⟩ (.inr (.inl (r2))))<|
 .rt [2,3,7] 2 (.inl (IntKind.wrap .i64 (v0+1))))<|
 .rt [2,3] 2 (.inr (.inr (())))
def XZ(R_:Jv)(p_a:ah)(p_b:ah)(v0:Int):Option ((Int)⊕Unit):=bV (fun v_=>(Bf R_ p_a p_b v_).den) FU (v0)
def agU(R_:Jv)(p_a:ah)(p_b:ah):Mo (Int):=
 .iB (p_a.aF != p_b.aF) (.cl (Bc p_a.aF p_b.aF) fun r0 _=>
 .ret (aU 1) (r0))<|
 .jk Tryz.f125 0 [1,1,0,1,0,0,1] 1 (fun r_=>⟨[(2,.ptr 0 0),(3,.ptr 1 0),(20,.i_ p_a.aF),(21,.b_ r_)],[aZ p_a,aZ p_b]⟩) ⟨[(2,.ptr 0 0),(3,.ptr 1 0),(20,.i_ p_a.aF),(21,.lf (.bool (p_a.aF==3)))],[aZ p_a,aZ p_b]⟩ (aaL R_ p_a p_b) fun r1=>
 .iB (r1) (.cl (Bc p_a.eF p_b.eF) fun r2 _=>
 .ret (aU 1) (r2))<|
 .jk Tryz.f125 0 [1,1,0,1,0,1,1,0,1] 1 (fun r_=>⟨[(2,.ptr 0 0),(3,.ptr 1 0),(20,.i_ p_a.aF),(30,.b_ r_)],[aZ p_a,aZ p_b]⟩) ⟨[(2,.ptr 0 0),(3,.ptr 1 0),(20,.i_ p_a.aF),(30,.lf (.bool (p_a.aF==4)))],[aZ p_a,aZ p_b]⟩ (aaM R_ p_a p_b) fun r3=>
 .iB (r3) (.cl (am9 p_a.fText p_b.fText) fun r4 _=>
 .ret (aU 1) (r4))<|
 .iB (p_a.aF==6) (.l2m [] Tryz.f125 0 [1,1,0,1,0,1,1,1,1,1,0,0,1,0] 0 (fun(v0)=>⟨[(2,.ptr 0 0),(3,.ptr 1 0),(5,.i_ v0)],[aZ p_a,aZ p_b]⟩) .ret (fun o_=>⟨[(4,.i_ o_)],[.dead,.dead]⟩) (.exit 1) (fun _=>⟨[(2,.ptr 0 0),(3,.ptr 1 0)],[aZ p_a,aZ p_b]⟩) (XY R_ p_a p_b 0) (Bd R_ p_a p_b) (0) (fun o0=>
 .ret (aU 1) (o0)) fun o1=>
 .nu p_a.aT ah.lf<|
 .nu p_b.aT ah.lf<|
 .cl (Bc (p_a.aT.length:Int) (p_b.aT.length:Int)) fun r5 _=>
 .ret (aU 1) (r5))<|
 .iB (p_a.aF==5) (.l2m [] Tryz.f125 0 [1,1,0,1,0,1,1,1,1,1,1,1,0,0,1,0] 0 (fun(v1)=>⟨[(2,.ptr 0 0),(3,.ptr 1 0),(7,.i_ v1)],[aZ p_a,aZ p_b]⟩) .ret (fun o_=>⟨[(4,.i_ o_)],[.dead,.dead]⟩) (.exit 3) (fun _=>⟨[(2,.ptr 0 0),(3,.ptr 1 0)],[aZ p_a,aZ p_b]⟩) (XZ R_ p_a p_b 0) (Bf R_ p_a p_b) (0) (fun o2=>
 .ret (aU 1) (o2)) fun o3=>
 .nu p_a.aW aJ.lf<|
 .nu p_b.aW aJ.lf<|
 .cl (Bc (p_a.aW.length:Int) (p_b.aW.length:Int)) fun r6 _=>
 .ret (aU 1) (r6))<|
 .ret (aU 1) (0)
theorem ard(R_:Jv):XW fun p_a p_b=>Mo.den (agU R_ p_a p_b):=fun _ _=>dw Tryz.func125
def rY:Nat→Jv
 |0=>{ m1:=fun p_a p_b=>none,ok1:=fun _ _ _ h=>(by cases h) }
 |n_+1=>{ m1:=fun p_a p_b=>Mo.den (agU (rY n_) p_a p_b),ok1:=ard (rY n_) }
def Q12(p_a:ah)(p_b:ah):Option (Int):=(rY FU).m1 p_a p_b
theorem avi:XW Q12:=(rY FU).ok1
def Tf(p_doc:ah)(p_key:ah)(r0:Int):Mo (Bool):=
 .aV 6002 (r0 != 0) [2,3,5,13] 2 (r0 != 2)
def ana(p_doc:ah)(p_key:ah):Mo (Int):=
 .cl (agT p_doc) fun r0 _=>
 .jk Tryz.f70 0 [1,0,1,0] 11 (fun r_=>⟨[(2,.ptr 0 0),(3,.ptr 1 0),(5,.i_ r0),(13,.b_ r_)],[aZ p_doc,aZ p_key]⟩) ⟨[(2,.ptr 0 0),(3,.ptr 1 0),(5,.i_ r0)],[aZ p_doc,aZ p_key]⟩ (Tf p_doc p_key r0) fun r1=>
 .iB (r1) (.ret (aU 1) (r0))<|
 .ask (mg p_doc.aW 0) fun x0 h0=>
 .say [] (ok1 (iy aJ.aX h0))<|
 .ask (Q12 x0.fValue p_key) fun r2 h1=>
 .say [.jf (.q 0 (.q 1 (.q 2 (.q 3 (.q 4 (.q 5 (.l 6 (.q 7 .fin)))))))) (some 6) [] [.row (aJ.lf1 x0),.res (.i_ r2)] [2,22] 2 [(2,.ptr 0 0),(22,.lf (.bool (r2 != 0)))] [aZ p_doc,aZ p_key]] (okc (avi _ _ _ h1) (ok1 (rf_ ⟨[(2,.ptr 0 0),(22,.lf (.bool (r2 != 0)))],[aZ p_doc,aZ p_key]⟩)))<|
 .iB (r2 != 0) (.ret (aU 1) (8))<|
 .cl (agT p_doc) fun r3 _=>
 .ret (aU 1) (r3)
def aem(p_doc:ah)(p_key:ah):Option (Int):=Mo.den (ana p_doc p_key)
theorem agV(p_doc:ah)(p_key:ah):FV (aem p_doc p_key) 70 [.dat (ah.lf1 p_doc),.dat (ah.lf1 p_key)] .i_:=dw Tryz.func70
def vY(p_a:List ByteArray)(p_b:List ByteArray):(Int)→Mo ((Int)⊕(Unit⊕Unit)):=fun(v0)=>
 .nu p_a lfS<|
 .iB (decide ((v0:Int)<(p_a.length:Int))) (.say [.order [(true,0),(true,1),(true,2),(true,3),(true,4),(true,5),(true,6),(true,7),(true,8)] none []] ok0<|
 .gx lS_ p_a v0 fun x0 _=>
 .gx lS_ p_b v0 fun x1 _=>
 .iB (!decide ((x0:ByteArray)=(x1:ByteArray))) (.rt [4] 0 (.inr (.inl ())))<|
 .rt [0,1,5] 0 (.inl (IntKind.wrap .i64 (v0+1))))<|
 .rt [] 0 (.inr (.inr (())))
def aen(p_a:List ByteArray)(p_b:List ByteArray)(v0:Int):Option (Unit⊕Unit):=bV (fun v_=>(vY p_a p_b v_).den) FU (v0)
def asj(p_a:List ByteArray)(p_b:List ByteArray):Mo (Bool):=
 .nu p_a lfS<|
 .nu p_b lfS<|
 .iB ((p_a.length:Int) != (p_b.length:Int)) (.ret (aU 1) (false))<|
 .l2 Tryz.f197 0 [1,1,0,1,0] 0 (fun(v0)=>⟨[(0,.lf (.rows 1 (p_a.map lfS))),(1,.lf (.rows 1 (p_b.map lfS))),(5,.i_ v0)],[]⟩) .ret (fun _=>⟨[(4,.b_ false)],[]⟩) (.exit 0) (fun _=>⟨[],[]⟩) (vY p_a p_b) (0) (fun o0=>
 .ret (aU 1) (false)) fun o1=>
 .ret (aU 1) (true)
def Q91(p_a:List ByteArray)(p_b:List ByteArray):Option (Bool):=Mo.den (asj p_a p_b)
theorem avj(p_a:List ByteArray)(p_b:List ByteArray):FV (Q91 p_a p_b) 197 [.lf (.rows 1 (p_a.map lfS)),.lf (.rows 1 (p_b.map lfS))] .b_:=dw Tryz.func197
def EM(p_l:List aY)(v0:Int):(Int)→Mo ((Int)⊕(Unit⊕Unit)):=fun(v1)=>
 .iB (decide ((v1:Int)<v0)) (.say [.order [(true,0),(true,1),(true,2),(true,3),(true,4),(true,5),(true,6),(true,7),(true,8),(true,9),(false,10)] (some 10) []] ok0<|
 .gx aY.aX p_l v0 fun x0 _=>
 .gx aY.aX p_l v1 fun x1 _=>
 .cl (avj x0.cO x1.cO) fun r0 _=>
 .iB (r0) (.rt [2] 0 (.inr (.inl ())))<|
 .rt [0,3,4] 0 (.inl (IntKind.wrap .i64 (v1+1))))<|
 .rt [0,3] 0 (.inr (.inr (())))
def aeo(p_l:List aY)(v0:Int)(v1:Int):Option (Unit⊕Unit):=bV (fun v_=>(EM p_l v0 v_).den) FU (v1)
def EN(p_l:List aY):(Int)→Mo ((Int)⊕(Int)⊕Unit):=fun(v0)=>
 .nu p_l aY.lf<|
 .iB (decide ((v0:Int)<(p_l.length:Int))) (.gx aY.aX p_l v0 fun x0 _=>
 .cl (NQ x0.cO) fun r0 _=>
 .iB (!r0) (.rt [2] 0 (.inr (.inl (10))))<|
 .l2m [] Tryz.f128 0 [1,1,0,1,0,0,1,0,0,1,1,0] 0 (fun(v1)=>⟨[(0,.lf (.rows 2 (p_l.map aY.lf))),(3,.i_ v0),(4,.i_ v1)],[]⟩) .ret (fun _=>⟨[(2,.i_ 12)],[]⟩) (.exit 2) (fun _=>⟨[(0,.lf (.rows 2 (p_l.map aY.lf))),(3,.i_ v0)],[]⟩) (aeo p_l v0 0) (EM p_l v0) (0) (fun o0=>
 .rt [2] 0 (.inr (.inl (12)))) fun o1=>
 .rt [0,3] 0 (.inl (IntKind.wrap .i64 (v0+1))))<|
 .rt [] 0 (.inr (.inr (())))
def avk(p_l:List aY)(v0:Int):Option ((Int)⊕Unit):=bV (fun v_=>(EN p_l v_).den) FU (v0)
def asl(p_l:List aY):Mo (Int):=
 .nu p_l aY.lf<|
 .iB (decide ((8:Int)<(p_l.length:Int))) (.ret (aU 1) (2))<|
 .l2 Tryz.f128 0 [1,1,0,1,0] 0 (fun(v0)=>⟨[(0,.lf (.rows 2 (p_l.map aY.lf))),(3,.i_ v0)],[]⟩) .ret (fun o_=>⟨[(2,.i_ o_)],[]⟩) (.exit 0) (fun _=>⟨[],[]⟩) (EN p_l) (0) (fun o0=>
 .ret (aU 1) (o0)) fun o1=>
 .ret (aU 1) (0)
def Q63(p_l:List aY):Option (Int):=Mo.den (asl p_l)
theorem avl(p_l:List aY):FV (Q63 p_l) 128 [.lf (.rows 2 (p_l.map aY.lf))] .i_:=dw Tryz.func128
abbrev X0(m:aO→Int→Int→Option (Int)):Prop:=∀p_p p_levels p_left,FV (m p_p p_levels p_left) 198 [.dat (aO.lf1 p_p),.i_ p_levels,.i_ p_left] .i_
structure aep where
 m1:(p_p:aO)→(p_levels:Int)→(p_left:Int)→Option (Int)
 ok1:X0 m1
def aaN(R_:aep)(p_left:Int)(p_levels:Int)(p_p:aO):Mo (Bool):=
 .oV 4002 (p_levels==0) [1,2,3,13] 1 (decide ((p_left:Int)≤0))
def EO(R_:aep)(p_levels:Int)(p_p:aO)(v0:Int)(v1:Int):Mo (Bool):=
 .nu p_p.bC aO.lf<|
 .aV 12005 (decide ((v1:Int)<(p_p.bC.length:Int))) [1,2,3,7,24] 1 (decide ((0:Int)≤v0))
def vZ(R_:aep)(p_levels:Int)(p_p:aO):(Int×Int)→Mo ((Int×Int)⊕(Int)):=fun(v0,v1)=>
 .jk Tryz.f198 0 [1,1,1,0,1,0,0,0,0] 17 (fun r_=>⟨[(1,.i_ p_levels),(2,.i_ v0),(3,.ptr 0 0),(7,.i_ v1),(24,.b_ r_)],[dA p_p]⟩) ⟨[(1,.i_ p_levels),(2,.i_ v0),(3,.ptr 0 0),(7,.i_ v1)],[dA p_p]⟩ (EO R_ p_levels p_p v0 v1) fun r0=>
 .iB (r0) (.gx aO.aX p_p.bC v1 fun x0 _=>
 .cl (R_.ok1 x0 (IntKind.wrap .i64 (p_levels-1)) v0) fun r1 _=>
 .rt [1,2,3,7] 1 (.inl (r1,IntKind.wrap .i64 (v1+1))))<|
 .ret ⟨[.kill 0],[2],[],1⟩ (.inr (v0))
def arf(R_:aep)(p_levels:Int)(p_p:aO)(v0:Int)(v1:Int):Option (Int):=bV (fun v_=>(vZ R_ p_levels p_p v_).den) FU (v0,v1)
def agW(R_:aep)(p_p:aO)(p_levels:Int)(p_left:Int):Mo (Int):=
 .jk Tryz.f198 0 [1,0,0] 9 (fun r_=>⟨[(1,.i_ p_levels),(2,.i_ p_left),(3,.ptr 0 0),(13,.b_ r_)],[dA p_p]⟩) ⟨[(1,.i_ p_levels),(2,.i_ p_left),(3,.ptr 0 0)],[dA p_p]⟩ (aaN R_ p_left p_levels p_p) fun r0=>
 .iB (r0) (.ret (aU 1) ((-1)))<|
 .l1 Tryz.f198 0 [1,1,1,0,1,0] 0 (.exit 0) (fun(v0,v1)=>⟨[(1,.i_ p_levels),(2,.i_ v0),(3,.ptr 0 0),(7,.i_ v1)],[dA p_p]⟩) (fun r_=>⟨[(2,.i_ r_)],[.dead]⟩) (vZ R_ p_levels p_p) ((IntKind.wrap .i64 (p_left-1)),0) fun r1=>
 .ret (aU 1) (r1)
theorem arh(R_:aep):X0 fun p_p p_levels p_left=>Mo.den (agW R_ p_p p_levels p_left):=fun _ _ _=>dw Tryz.func198
def Il:Nat→aep
 |0=>{ m1:=fun p_p p_levels p_left=>none,ok1:=fun _ _ _ _ h=>(by cases h) }
 |n_+1=>{ m1:=fun p_p p_levels p_left=>Mo.den (agW (Il n_) p_p p_levels p_left),ok1:=arh (Il n_) }
def Q54(p_p:aO)(p_levels:Int)(p_left:Int):Option (Int):=(Il FU).m1 p_p p_levels p_left
theorem avm:X0 Q54:=(Il FU).ok1
def Ti(p_p:aO):Mo (Bool):=
 .iB (p_p.fOp==15) (.rt [1,4,5] 1 (p_p.fOp==15))<|
 .rt [1,4,5] 1 (p_p.fOp==23)
def Tj(p_p:aO):Mo (Bool):=
 .iB (p_p.fOp==20) (.rt [1,12] 1 (p_p.fOp==20))<|
 .iB (p_p.fOp==21) (.rt [1,12] 1 (p_p.fOp==21))<|
 .rt [1,12] 1 (p_p.fOp==22)
def anb(p_p:aO):Mo (Bool):=
 .jk Tryz.f264 0 [1,0,1,0,0,1] 1 (fun r_=>⟨[(1,.ptr 0 0),(4,.i_ p_p.fOp),(5,.b_ r_)],[dA p_p]⟩) ⟨[(1,.ptr 0 0),(4,.i_ p_p.fOp),(5,.lf (.bool (p_p.fOp==15)))],[dA p_p]⟩ (Ti p_p) fun r0=>
 .iB (r0) (.nu p_p.bC aO.lf<|
 .ret (aU 1) ((p_p.bC.length:Int)==1))<|
 .jk Tryz.f264 0 [1,0,1,0,1,1,0,1] 1 (fun r_=>⟨[(1,.ptr 0 0),(12,.b_ r_)],[dA p_p]⟩) ⟨[(1,.ptr 0 0),(4,.i_ p_p.fOp),(12,.lf (.bool (p_p.fOp==20)))],[dA p_p]⟩ (Tj p_p) fun r1=>
 .iB (r1) (.nu p_p.bC aO.lf<|
 .ret (aU 1) (decide ((0:Int)<(p_p.bC.length:Int))))<|
 .nu p_p.bC aO.lf<|
 .ret (aU 1) ((p_p.bC.length:Int)==0)
def avn(p_p:aO):Option (Bool):=Mo.den (anb p_p)
theorem ari(p_p:aO):FV (avn p_p) 264 [.dat (aO.lf1 p_p)] .b_:=dw Tryz.func264
theorem X3(p_op:Int):FV (Q98 p_op) 265 [.i_ p_op] .b_:=dw Tryz.func265
def anc(p_p:aO):Mo (Bool):=
 .iB (p_p.fOp==10) (.jk Tryz.f266 0 [1,0,1,0,1,0,0] 13 (fun r_=>⟨[(2,.b_ r_)],[.dead]⟩) ⟨[(1,.ptr 0 0)],[dA p_p]⟩ (Eh p_p) fun r0=>
 .ret (aU 1) (r0))<|
 .iB (p_p.fOp==11) (.jk Tryz.f266 0 [1,0,1,0,1,1,1,0,0] 17 (fun r_=>⟨[(2,.b_ r_)],[.dead]⟩) ⟨[(1,.ptr 0 0)],[dA p_p]⟩ (Ei p_p) fun r1=>
 .ret (aU 1) (r1))<|
 .iB (p_p.fOp==12) (.sf Tryz.f266 0 [1,0,1,0,1,1,1,1,1,0,0] 0 8 7 [(1,.ptr 0 0),(2,.b_ false)] [dA p_p] 34 (AB p_p) fun r2=>
 .sk Tryz.f266 0 [1,0,1,0,1,1,1,1,1,0,0] 8 7 7 (fun r_=>⟨[(2,.b_ false),(41,.b_ r_)],[.dead]⟩) ⟨[(1,.ptr 0 0),(2,.b_ false),(34,.b_ r2)],[dA p_p]⟩ (AO p_p r2) fun r3=>
 .sk Tryz.f266 0 [1,0,1,0,1,1,1,1,1,0,0] 15 1 7 (fun r_=>⟨[(2,.b_ r3)],[.dead]⟩) ⟨[(2,.b_ false),(41,.b_ r3)],[.dead]⟩ (dQ r3) fun r4=>
 .ret (aU 1) (r3))<|
 .iB (p_p.fOp==13) (.ret (aU 1) (decide ((0:Int)≤p_p.fN)))<|
 .ret (aU 1) (true)
def avo(p_p:aO):Option (Bool):=Mo.den (anc p_p)
theorem arj(p_p:aO):FV (avo p_p) 266 [.dat (aO.lf1 p_p)] .b_:=dw Tryz.func266
theorem agX(p_op:Int):FV (Pn p_op) 267 [.i_ p_op] .b_:=dw Tryz.func267
theorem X4(p_op:Int):FV (ZM p_op) 269 [.i_ p_op] .b_:=dw Tryz.func269
def ane(p_op:Int):Mo (Bool):=
 .iG 4002 (decide ((2:Int)≤p_op)) (.iG 4006 (decide ((p_op:Int)≤7)) (.ret (aU 1) (true))<|
 .cl (X4 p_op) fun r0 _=>
 .ret (aU 1) (r0))<|
 .cl (X4 p_op) fun r1 _=>
 .ret (aU 1) (r1)
def avp(p_op:Int):Option (Bool):=Mo.den (ane p_op)
theorem agY(p_op:Int):FV (avp p_op) 268 [.i_ p_op] .b_:=dw Tryz.func268
theorem X5(p_n:Int):FV (WA p_n) 318 [.i_ p_n] .b_:=dw Tryz.func318
def anf(p_p:bU):Mo (Bool):=
 .cl (X5 p_p.fX) fun r0 _=>
 .iG 4003 (r0) (.cl (X5 p_p.fY) fun r1 _=>
 .ret (aU 1) (r1))<|
 .ret (aU 1) (false)
def avq(p_p:bU):Option (Bool):=Mo.den (anf p_p)
theorem ark(p_p:bU):FV (avq p_p) 317 [.dat (bU.lf1 p_p)] .b_:=dw Tryz.func317
def EP(p_s:dL):(Int)→Mo ((Int)⊕(Unit⊕Unit)):=fun(v0)=>
 .iB (decide ((v0:Int)<(p_s.bG.length:Int))) (.gx bU.aX p_s.bG v0 fun x0 _=>
 .cl (ark x0) fun r0 _=>
 .iB (!r0) (.ret ⟨[.kill 0],[2],[],1⟩ (.inr (.inl ())))<|
 .rt [1,3,4] 1 (.inl (IntKind.wrap .i64 (v0+1))))<|
 .rt [1,3] 1 (.inr (.inr (())))
def aer(p_s:dL)(v0:Int):Option (Unit⊕Unit):=bV (fun v_=>(EP p_s v_).den) FU (v0)
def aaO(p_s:dL):Mo (Bool):=
 .aV 20003 (p_s.aF==1) [1,3,28] 1 ((p_s.bG.length:Int)==2)
def Tn(p_s:dL)(r0:Bool):Mo (Bool):=
 .aV 20007 (r0) [1,3,33] 1 (p_s.fR==0)
def Tq(p_s:dL)(r0:Bool):Mo (Bool):=
 .iG 20012 (r0) (.rt [1,3,47] 1 (true))<|
 .iG 20016 (p_s.aF==2) (.aC 20020 ((p_s.bG.length:Int)==1) [1,3,47] 1 (X5 p_s.fR))<|
 .rt [1,3,47] 1 (false)
def Tt(p_s:dL)(r0:Bool):Mo (Bool):=
 .iG 20026 (r0) (.ret ⟨[.kill 0],[61],[],1⟩ (true))<|
 .iG 20030 (p_s.aF==3) (.iG 20034 (decide ((3:Int)≤(p_s.bG.length:Int))) (.ret ⟨[.kill 0],[61],[],1⟩ (p_s.fR==0))<|
 .ret ⟨[.kill 0],[61],[],1⟩ (false))<|
 .ret ⟨[.kill 0],[61],[],1⟩ (false)
def asn(p_s:dL):Mo (Int):=
 .nu p_s.bG bU.lf<|
 .iB (decide ((64:Int)<(p_s.bG.length:Int))) (.ret (aU 1) (18))<|
 .l2m [] Tryz.f270 0 [1,1,1,0,1,0] 0 (fun(v0)=>⟨[(1,.ptr 0 0),(3,.i_ (p_s.bG.length:Int)),(4,.i_ v0)],[xZ p_s]⟩) .ret (fun _=>⟨[(2,.i_ 18)],[.dead]⟩) (.exit 0) (fun _=>⟨[(1,.ptr 0 0),(3,.i_ (p_s.bG.length:Int))],[xZ p_s]⟩) (aer p_s 0) (EP p_s) (0) (fun o0=>
 .ret (aU 1) (18)) fun o1=>
 .sf Tryz.f270 0 [1,1,1,1,0,0] 0 7 9 [(1,.ptr 0 0),(3,.i_ (p_s.bG.length:Int))] [xZ p_s] 28 (aaO p_s) fun r0=>
 .sb Tryz.f270 0 [1,1,1,1,0,0] 7 5 9 [(1,.ptr 0 0),(3,.i_ (p_s.bG.length:Int))] [xZ p_s] 28 33 r0 (Tn p_s r0) fun r1=>
 .sb Tryz.f270 0 [1,1,1,1,0,0] 12 14 9 [(1,.ptr 0 0),(3,.i_ (p_s.bG.length:Int))] [xZ p_s] 33 47 r1 (Tq p_s r1) fun r2=>
 .sk Tryz.f270 0 [1,1,1,1,0,0] 26 14 9 (fun r_=>⟨[(61,.b_ r_)],[.dead]⟩) ⟨[(1,.ptr 0 0),(3,.i_ (p_s.bG.length:Int)),(47,.b_ r2)],[xZ p_s]⟩ (Tt p_s r2) fun r3=>
 .iB (r3) (.ret (aU 1) (0))<|
 .ret (aU 1) (18)
def Q47(p_s:dL):Option (Int):=Mo.den (asn p_s)
theorem avr(p_s:dL):FV (Q47 p_s) 270 [.dat (dL.lf1 p_s)] .i_:=dw Tryz.func270
def Tv(p_s:dL):Mo (Bool):=
 .iG 4003 (p_s.aF==0) (.nu p_s.bG bU.lf<|
 .rt [1,2,11] 1 ((p_s.bG.length:Int)==0))<|
 .rt [1,2,11] 1 (false)
def Tz(p_s:dL)(r0:Bool):Mo (Bool):=
 .iG 4009 (r0) (.ret ⟨[.kill 0],[2,16],[],1⟩ (p_s.fR==0))<|
 .ret ⟨[.kill 0],[2,16],[],1⟩ (false)
def ang(p_s:dL):Mo (Bool):=
 .sf Tryz.f319 0 [1,0] 0 9 1 [(1,.ptr 0 0),(2,.b_ false)] [xZ p_s] 11 (Tv p_s) fun r0=>
 .sk Tryz.f319 0 [1,0] 9 5 1 (fun r_=>⟨[(2,.b_ false),(16,.b_ r_)],[.dead]⟩) ⟨[(1,.ptr 0 0),(2,.b_ false),(11,.b_ r0)],[xZ p_s]⟩ (Tz p_s r0) fun r1=>
 .sk Tryz.f319 0 [1,0] 14 1 1 (fun r_=>⟨[(2,.b_ r1)],[.dead]⟩) ⟨[(2,.b_ false),(16,.b_ r1)],[.dead]⟩ (dQ r1) fun r2=>
 .ret (aU 1) (r1)
def awQ(p_s:dL):Option (Bool):=Mo.den (ang p_s)
theorem arl(p_s:dL):FV (awQ p_s) 319 [.dat (dL.lf1 p_s)] .b_:=dw Tryz.func319
def NV(p_e:aQ)(r0:Bool):Mo (Bool):=
 .aC 4020 (r0) [1,2,27] 1 (xg p_e.fArg)
def anh(p_e:aQ):Mo (Bool):=
 .sf Tryz.f320 0 [1,0] 0 9 1 [(1,.ptr 0 0),(2,.b_ false)] [dM p_e] 11 (o7 p_e) fun r0=>
 .sb Tryz.f320 0 [1,0] 9 5 1 [(1,.ptr 0 0),(2,.b_ false)] [dM p_e] 11 16 r0 (o8 p_e r0) fun r1=>
 .sb Tryz.f320 0 [1,0] 14 6 1 [(1,.ptr 0 0),(2,.b_ false)] [dM p_e] 16 22 r1 (nK p_e r1) fun r2=>
 .sb Tryz.f320 0 [1,0] 20 5 1 [(1,.ptr 0 0),(2,.b_ false)] [dM p_e] 22 27 r2 (NV p_e r2) fun r3=>
 .sb Tryz.f320 0 [1,0] 25 5 1 [(1,.ptr 0 0),(2,.b_ false)] [dM p_e] 27 32 r3 (nN p_e r3) fun r4=>
 .sk Tryz.f320 0 [1,0] 30 6 1 (fun r_=>⟨[(2,.b_ false),(38,.b_ r_)],[.dead]⟩) ⟨[(1,.ptr 0 0),(2,.b_ false),(32,.b_ r4)],[dM p_e]⟩ (nO p_e r4) fun r5=>
 .sk Tryz.f320 0 [1,0] 36 1 1 (fun r_=>⟨[(2,.b_ r5)],[.dead]⟩) ⟨[(2,.b_ false),(38,.b_ r5)],[.dead]⟩ (dQ r5) fun r6=>
 .ret (aU 1) (r5)
def avs(p_e:aQ):Option (Bool):=Mo.den (anh p_e)
theorem arn(p_e:aQ):FV (avs p_e) 320 [.dat (aQ.lf1 p_e)] .b_:=dw Tryz.func320
def aaP(p_p:aO):Mo (Bool):=
 .cl (agX p_p.fOp) fun r0 _=>
 .iG 4004 (!r0) (.nu p_p.cO lfS<|
 .rt [1,12] 1 (decide ((0:Int)<(p_p.cO.length:Int))))<|
 .rt [1,12] 1 (false)
def aaQ(p_p:aO)(r0:Bool):Mo (Bool):=
 .iG 4010 (r0) (.rt [1,24] 1 (true))<|
 .cl (agY p_p.fOp) fun r1 _=>
 .iG 4015 (!r1) (.cl (xg p_p.fArg) fun r2 _=>
 .rt [1,24] 1 (!r2))<|
 .rt [1,24] 1 (false)
def TA(p_p:aO)(r0:Bool):Mo (Bool):=
 .iG 4022 (r0) (.rt [1,36] 1 (true))<|
 .cl (X3 p_p.fOp) fun r1 _=>
 .iG 4027 (!r1) (.nu p_p.fArgs ah.lf<|
 .rt [1,36] 1 (decide ((0:Int)<(p_p.fArgs.length:Int))))<|
 .rt [1,36] 1 (false)
def TB(p_p:aO):Mo (Bool):=
 .aV 8003 (p_p.fOp != 10) [1,44] 1 (p_p.fOp != 11)
def TF(p_p:aO)(r0:Bool):Mo (Bool):=
 .aV 8008 (r0) [1,49] 1 (p_p.fOp != 12)
def TG(p_p:aO)(r0:Bool):Mo (Bool):=
 .aV 8013 (r0) [1,54] 1 (p_p.fOp != 13)
def TJ(p_p:aO)(r0:Bool):Mo (Bool):=
 .aV 8018 (r0) [1,59] 1 (p_p.fN != 0)
def TK(p_p:aO)(r0:Bool):Mo (Bool):=
 .iG 8023 (r0) (.rt [1,69] 1 (true))<|
 .aV 8027 (p_p.fOp != 12) [1,69] 1 (p_p.fM != 0)
def TL(p_p:aO):Mo (Bool):=
 .iG 12003 (p_p.fOp==18) (.rt [1,77] 1 (true))<|
 .cl (arl p_p.dI) fun r0 _=>
 .rt [1,77] 1 (r0)
def TM(p_p:aO)(r0:Bool):Mo (Bool):=
 .iG 12008 (r0) (.iG 12012 (p_p.fOp==24) (.ret ⟨[.kill 0],[87],[],1⟩ (true))<|
 .cl (arn p_p.fExpr) fun r1 _=>
 .ret ⟨[.kill 0],[87],[],1⟩ (r1))<|
 .ret ⟨[.kill 0],[87],[],1⟩ (false)
def aso(p_p:aO):Mo (Bool):=
 .sf Tryz.f271 0 [1,0,0] 0 10 1 [(1,.ptr 0 0)] [dA p_p] 12 (aaP p_p) fun r0=>
 .sb Tryz.f271 0 [1,0,0] 10 12 1 [(1,.ptr 0 0)] [dA p_p] 12 24 r0 (aaQ p_p r0) fun r1=>
 .sb Tryz.f271 0 [1,0,0] 22 12 1 [(1,.ptr 0 0)] [dA p_p] 24 36 r1 (TA p_p r1) fun r2=>
 .iB (r2) (.ret (aU 1) (false))<|
 .sf Tryz.f271 0 [1,1,0,0] 0 8 3 [(1,.ptr 0 0)] [dA p_p] 44 (TB p_p) fun r3=>
 .sb Tryz.f271 0 [1,1,0,0] 8 5 3 [(1,.ptr 0 0)] [dA p_p] 44 49 r3 (TF p_p r3) fun r4=>
 .sb Tryz.f271 0 [1,1,0,0] 13 5 3 [(1,.ptr 0 0)] [dA p_p] 49 54 r4 (TG p_p r4) fun r5=>
 .sb Tryz.f271 0 [1,1,0,0] 18 5 3 [(1,.ptr 0 0)] [dA p_p] 54 59 r5 (TJ p_p r5) fun r6=>
 .sb Tryz.f271 0 [1,1,0,0] 23 10 3 [(1,.ptr 0 0)] [dA p_p] 59 69 r6 (TK p_p r6) fun r7=>
 .iB (r7) (.ret (aU 1) (false))<|
 .sf Tryz.f271 0 [1,1,1,0] 0 8 5 [(1,.ptr 0 0)] [dA p_p] 77 (TL p_p) fun r8=>
 .sk Tryz.f271 0 [1,1,1,0] 8 10 5 (fun r_=>⟨[(87,.b_ r_)],[.dead]⟩) ⟨[(1,.ptr 0 0),(77,.b_ r8)],[dA p_p]⟩ (TM p_p r8) fun r9=>
 .sk Tryz.f271 0 [1,1,1,0] 18 1 5 (fun r_=>⟨[(2,.b_ r9)],[.dead]⟩) ⟨[(87,.b_ r9)],[.dead]⟩ (dQ r9) fun r10=>
 .ret (aU 1) (r9)
def Q27(p_p:aO):Option (Bool):=Mo.den (aso p_p)
theorem avt(p_p:aO):FV (Q27 p_p) 271 [.dat (aO.lf1 p_p)] .b_:=dw Tryz.func271
def NW(p_op:Int):Mo (Bool):=
 .iB (p_op==19) (.rt [3,17] 0 (p_op==19))<|
 .rt [3,17] 0 (p_op==25)
def NY(p_op:Int):Mo (Bool):=
 .iB (p_op==4) (.rt [20] 0 (p_op==4))<|
 .iB (p_op==6) (.rt [20] 0 (p_op==6))<|
 .iB (p_op==16) (.rt [20] 0 (p_op==16))<|
 .iB (p_op==17) (.rt [20] 0 (p_op==17))<|
 .iB (p_op==21) (.rt [20] 0 (p_op==21))<|
 .iB (p_op==29) (.rt [20] 0 (p_op==29))<|
 .iB (p_op==37) (.rt [20] 0 (p_op==37))<|
 .iB (p_op==35) (.rt [20] 0 (p_op==35))<|
 .rt [20] 0 (p_op==34)
def ani(p_op:Int):Mo (Int):=
 .jk Tryz.f340 0 [1,0,1,0,0,1] 1 (fun r_=>⟨[(3,.i_ p_op),(4,.b_ r_)],[]⟩) ⟨[(3,.i_ p_op),(4,.lf (.bool (p_op==1)))],[]⟩ (Ej p_op) fun r0=>
 .iB (r0) (.ret (aU 1) (0))<|
 .jk Tryz.f340 0 [1,0,1,0,1,1,0,1] 1 (fun r_=>⟨[(3,.i_ p_op),(8,.b_ r_)],[]⟩) ⟨[(3,.i_ p_op),(8,.lf (.bool (p_op==18)))],[]⟩ (Em p_op) fun r1=>
 .iB (r1) (.ret (aU 1) (1))<|
 .jk Tryz.f340 0 [1,0,1,0,1,1,1,1,0,1] 1 (fun r_=>⟨[(3,.i_ p_op),(17,.b_ r_)],[]⟩) ⟨[(3,.i_ p_op),(17,.lf (.bool (p_op==19)))],[]⟩ (NW p_op) fun r2=>
 .iB (r2) (.ret (aU 1) (3))<|
 .jk Tryz.f340 0 [1,0,1,0,1,1,1,1,1,1,0,1] 1 (fun r_=>⟨[(20,.b_ r_)],[]⟩) ⟨[(3,.i_ p_op),(20,.lf (.bool (p_op==4)))],[]⟩ (NY p_op) fun r3=>
 .iB (r3) (.ret (aU 1) ((-1)))<|
 .ret (aU 1) (2)
def awR(p_op:Int):Option (Int):=Mo.den (ani p_op)
theorem agZ(p_op:Int):FV (awR p_op) 340 [.i_ p_op] .i_:=dw Tryz.func340
def rZ(p_l:List ByteArray)(v0:Int):(Int)→Mo ((Int)⊕(Unit⊕Unit)):=fun(v1)=>
 .iB (decide ((v1:Int)<v0)) (.say [.order [(true,0),(true,1),(true,2),(true,3),(true,4),(true,5),(true,6),(true,7),(true,8)] none []] ok0<|
 .gx lS_ p_l v1 fun x0 _=>
 .gx lS_ p_l v0 fun x1 _=>
 .iB (decide ((x0:ByteArray)=(x1:ByteArray))) (.rt [2] 0 (.inr (.inl ())))<|
 .rt [0,3,4] 0 (.inl (IntKind.wrap .i64 (v1+1))))<|
 .rt [0,3] 0 (.inr (.inr (())))
def Io(p_l:List ByteArray)(v0:Int)(v1:Int):Option (Unit⊕Unit):=bV (fun v_=>(rZ p_l v0 v_).den) FU (v1)
def ER(p_l:List ByteArray):(Int)→Mo ((Int)⊕(Unit⊕Unit)):=fun(v0)=>
 .nu p_l lfS<|
 .iB (decide ((v0:Int)<(p_l.length:Int))) (.gx lS_ p_l v0 fun x0 _=>
 .cl (Dh x0) fun r0 _=>
 .iB (!r0) (.rt [2] 0 (.inr (.inl ())))<|
 .l2m [] Tryz.f341 0 [1,0,1,0,0,1,0,0,1,1,0] 0 (fun(v1)=>⟨[(0,.lf (.rows 1 (p_l.map lfS))),(3,.i_ v0),(4,.i_ v1)],[]⟩) .ret (fun _=>⟨[(2,.b_ false)],[]⟩) (.exit 2) (fun _=>⟨[(0,.lf (.rows 1 (p_l.map lfS))),(3,.i_ v0)],[]⟩) (Io p_l v0 0) (rZ p_l v0) (0) (fun o0=>
 .rt [2] 0 (.inr (.inl ()))) fun o1=>
 .rt [0,3] 0 (.inl (IntKind.wrap .i64 (v0+1))))<|
 .rt [] 0 (.inr (.inr (())))
def avu(p_l:List ByteArray)(v0:Int):Option (Unit⊕Unit):=bV (fun v_=>(ER p_l v_).den) FU (v0)
def asq(p_l:List ByteArray):Mo (Bool):=
 .l2 Tryz.f341 0 [1,0,1,0] 0 (fun(v0)=>⟨[(0,.lf (.rows 1 (p_l.map lfS))),(3,.i_ v0)],[]⟩) .ret (fun _=>⟨[(2,.b_ false)],[]⟩) (.exit 0) (fun _=>⟨[],[]⟩) (ER p_l) (0) (fun o0=>
 .ret (aU 1) (false)) fun o1=>
 .ret (aU 1) (true)
def Q45(p_l:List ByteArray):Option (Bool):=Mo.den (asq p_l)
theorem avv(p_l:List ByteArray):FV (Q45 p_l) 341 [.lf (.rows 1 (p_l.map lfS))] .b_:=dw Tryz.func341
abbrev X6(m:ah→ah→Option (Bool)):Prop:=∀p_a p_b,FV (m p_a p_b) 200 [.dat (ah.lf1 p_a),.dat (ah.lf1 p_b)] .b_
structure Jw where
 m1:(p_a:ah)→(p_b:ah)→Option (Bool)
 ok1:X6 m1
def aaR(R_:Jw)(p_a:ah)(p_b:ah):Mo (Bool):=
 .oV 4005 (p_a.aF != p_b.aF) [2,3,18] 2 (p_a.eF != p_b.eF)
def aaS(R_:Jw)(p_a:ah)(p_b:ah)(r0:Bool):Mo (Bool):=
 .oV 4012 (r0) [2,3,25] 2 (!decide ((p_a.fText:ByteArray)=(p_b.fText:ByteArray)))
def TN(R_:Jw)(p_a:ah)(p_b:ah)(r0:Bool):Mo (Bool):=
 .iG 4019 (r0) (.rt [2,3,34] 2 (true))<|
 .nu p_a.aT ah.lf<|
 .nu p_b.aT ah.lf<|
 .rt [2,3,34] 2 ((p_a.aT.length:Int) != (p_b.aT.length:Int))
def TP(R_:Jw)(p_a:ah)(p_b:ah)(r0:Bool):Mo (Bool):=
 .iG 4028 (r0) (.rt [2,3,43] 2 (true))<|
 .nu p_a.aW aJ.lf<|
 .nu p_b.aW aJ.lf<|
 .rt [2,3,43] 2 ((p_a.aW.length:Int) != (p_b.aW.length:Int))
def Ip(R_:Jw)(p_a:ah)(p_b:ah):(Int)→Mo ((Int)⊕(Unit⊕Unit)):=fun(v0)=>
 .nu p_a.aT ah.lf<|
 .iB (decide ((v0:Int)<(p_a.aT.length:Int))) (.ask (mg p_a.aT v0) fun x0 h0=>
 .say [] (ok1 (iy ah.aX h0))<|
 .ask (mg p_b.aT v0) fun x1 h1=>
 .say [] (ok1 (iy ah.aX h1))<|
 .ask (R_.m1 x0 x1) fun r0 h2=>
 .say [.jf (.q 0 (.q 1 (.q 2 (.q 3 (.q 4 (.q 5 (.q 6 (.q 7 (.q 8 (.q 9 (.l 10 (.q 11 .fin)))))))))))) (some 10) [] [.row (ah.lf1 x0),.row (ah.lf1 x1),.res (.b_ r0)] [2,3,5,62] 2 [(2,.ptr 0 0),(3,.ptr 1 0),(5,.i_ v0),(62,.lf (.bool (!r0)))] [aZ p_a,aZ p_b]] (okc (R_.ok1 _ _ _ h2) (ok1 (rf_ ⟨[(2,.ptr 0 0),(3,.ptr 1 0),(5,.i_ v0),(62,.lf (.bool (!r0)))],[aZ p_a,aZ p_b]⟩)))<|
 .iB (!r0) (.ret ⟨[.kill 0,.kill 1],[4],[],2⟩ (.inr (.inl ())))<|
 .rt [2,3,5] 2 (.inl (IntKind.wrap .i64 (v0+1))))<|
 .rt [2,3] 2 (.inr (.inr (())))
def ag0(R_:Jw)(p_a:ah)(p_b:ah)(v0:Int):Option (Unit⊕Unit):=bV (fun v_=>(Ip R_ p_a p_b v_).den) FU (v0)
theorem axP:VH (opsOf (Code.sub (bodyC Tryz.f200) [1,1,1,0,1,0,0,1,0,0,0])) [(true,0),(true,1),(true,2),(true,3),(true,4),(true,5),(true,6),(true,7),(true,8),(true,9),(true,10),(true,11),(true,12),(true,13),(true,14),(true,15),(true,16),(true,17),(true,18),(true,19),(true,20),(true,21),(true,22),(true,23),(true,24),(true,25),(false,26),(true,27),(true,28)] none=true:=by kernel_rfl
def aiI(R_:Jw)(p_a:ah)(p_b:ah)(v0:Int):Mo (Bool):=
 .say [.CB [(true,0),(true,1),(true,2),(true,3),(true,4),(true,5),(true,6),(true,7),(true,8),(true,9),(true,10),(true,11),(true,12),(true,13),(true,14),(true,15),(true,16),(true,17),(true,18),(true,19),(true,20),(true,21),(true,22),(true,23),(true,24),(true,25),(false,26),(true,27),(true,28)] none []] (ok1 axP)<|
 .gx aJ.aX p_a.aW v0 fun x0 _=>
 .gx aJ.aX p_b.aW v0 fun x1 _=>
 .iG 24013 (!decide ((x0.fName:ByteArray)=(x1.fName:ByteArray))) (.rt [2,3,6,98] 2 (true))<|
 .gx aJ.aX p_a.aW v0 fun x2 _=>
 .gx aJ.aX p_b.aW v0 fun x3 _=>
 .cl (R_.ok1 x2.fValue x3.fValue) fun r0 _=>
 .rt [2,3,6,98] 2 (!r0)
def Iq(R_:Jw)(p_a:ah)(p_b:ah):(Int)→Mo ((Int)⊕(Unit⊕Unit)):=fun(v0)=>
 .nu p_a.aW aJ.lf<|
 .iB (decide ((v0:Int)<(p_a.aW.length:Int))) (.jk Tryz.f200 0 [1,1,1,0,1,0,0,1,0,0,0] 29 (fun r_=>⟨[(2,.ptr 0 0),(3,.ptr 1 0),(6,.i_ v0),(98,.b_ r_)],[aZ p_a,aZ p_b]⟩) ⟨[(2,.ptr 0 0),(3,.ptr 1 0),(6,.i_ v0)],[aZ p_a,aZ p_b]⟩ (aiI R_ p_a p_b v0) fun r0=>
 .iB (r0) (.ret ⟨[.kill 0,.kill 1],[4],[],2⟩ (.inr (.inl ())))<|
 .rt [2,3,6] 2 (.inl (IntKind.wrap .i64 (v0+1))))<|
 .ret ⟨[.kill 0,.kill 1],[],[],2⟩ (.inr (.inr (())))
def ag1(R_:Jw)(p_a:ah)(p_b:ah)(v0:Int):Option (Unit⊕Unit):=bV (fun v_=>(Iq R_ p_a p_b v_).den) FU (v0)
def ag2(R_:Jw)(p_a:ah)(p_b:ah):Mo (Bool):=
 .sf Tryz.f200 0 [1,0,0] 0 12 1 [(2,.ptr 0 0),(3,.ptr 1 0)] [aZ p_a,aZ p_b] 18 (aaR R_ p_a p_b) fun r0=>
 .sb Tryz.f200 0 [1,0,0] 12 7 1 [(2,.ptr 0 0),(3,.ptr 1 0)] [aZ p_a,aZ p_b] 18 25 r0 (aaS R_ p_a p_b r0) fun r1=>
 .sb Tryz.f200 0 [1,0,0] 19 9 1 [(2,.ptr 0 0),(3,.ptr 1 0)] [aZ p_a,aZ p_b] 25 34 r1 (TN R_ p_a p_b r1) fun r2=>
 .sb Tryz.f200 0 [1,0,0] 28 9 1 [(2,.ptr 0 0),(3,.ptr 1 0)] [aZ p_a,aZ p_b] 34 43 r2 (TP R_ p_a p_b r2) fun r3=>
 .iB (r3) (.ret (aU 1) (false))<|
 .l2m [] Tryz.f200 0 [1,1,0,1,0] 0 (fun(v0)=>⟨[(2,.ptr 0 0),(3,.ptr 1 0),(5,.i_ v0)],[aZ p_a,aZ p_b]⟩) .ret (fun _=>⟨[(4,.b_ false)],[.dead,.dead]⟩) (.exit 0) (fun _=>⟨[(2,.ptr 0 0),(3,.ptr 1 0)],[aZ p_a,aZ p_b]⟩) (ag0 R_ p_a p_b 0) (Ip R_ p_a p_b) (0) (fun o0=>
 .ret (aU 1) (false)) fun o1=>
 .l2m [] Tryz.f200 0 [1,1,1,0,1,0] 0 (fun(v1)=>⟨[(2,.ptr 0 0),(3,.ptr 1 0),(6,.i_ v1)],[aZ p_a,aZ p_b]⟩) .ret (fun _=>⟨[(4,.b_ false)],[.dead,.dead]⟩) (.exit 2) (fun _=>⟨[],[.dead,.dead]⟩) (ag1 R_ p_a p_b 0) (Iq R_ p_a p_b) (0) (fun o2=>
 .ret (aU 1) (false)) fun o3=>
 .ret (aU 1) (true)
theorem aro(R_:Jw):X6 fun p_a p_b=>Mo.den (ag2 R_ p_a p_b):=fun _ _=>dw Tryz.func200
def Dj:Nat→Jw
 |0=>{ m1:=fun p_a p_b=>none,ok1:=fun _ _ _ h=>(by cases h) }
 |n_+1=>{ m1:=fun p_a p_b=>Mo.den (ag2 (Dj n_) p_a p_b),ok1:=aro (Dj n_) }
def Q23(p_a:ah)(p_b:ah):Option (Bool):=(Dj FU).m1 p_a p_b
theorem X7:X6 Q23:=(Dj FU).ok1
theorem axQ:VH (opsOf (Code.sub (bodyC Tryz.f337) [1,0,0])) [(true,0),(true,1),(true,2),(true,3),(true,4),(true,5),(true,6),(true,7),(true,8),(true,9),(true,10),(false,11),(true,12),(true,13),(true,14),(true,15),(true,16),(true,17),(true,18),(false,19),(true,20),(true,21),(true,22),(true,23),(true,24),(true,25),(true,26),(true,27),(true,28),(true,29),(true,30),(true,31),(true,32),(true,33),(true,34),(true,35),(true,36),(true,37),(true,38),(true,39),(true,40),(true,41),(true,42)] none=true:=by kernel_rfl
def aaT(p_e:aQ):Mo (Bool):=
 .say [.CB [(true,0),(true,1),(true,2),(true,3),(true,4),(true,5),(true,6),(true,7),(true,8),(true,9),(true,10),(false,11),(true,12),(true,13),(true,14),(true,15),(true,16),(true,17),(true,18),(false,19),(true,20),(true,21),(true,22),(true,23),(true,24),(true,25),(true,26),(true,27),(true,28),(true,29),(true,30),(true,31),(true,32),(true,33),(true,34),(true,35),(true,36),(true,37),(true,38),(true,39),(true,40),(true,41),(true,42)] none []] (ok1 axQ)<|
 .iG 4003 (decide ((p_e.fOp:Int)<1)) (.rt [1,46] 1 (true))<|
 .iG 4008 (decide ((37:Int)<p_e.fOp)) (.rt [1,46] 1 (true))<|
 .cl (agZ p_e.fOp) fun r0 _=>
 .iG 4013 (decide ((0:Int)≤r0)) (.nu p_e.bC aQ.lf<|
 .cl (agZ p_e.fOp) fun r1 _=>
 .iG 4023 ((p_e.bC.length:Int) != r1) (.rt [1,46] 1 (true))<|
 .iG 4027 (p_e.fOp==34) (.nu p_e.bC aQ.lf<|
 .nu p_e.eu lfS<|
 .iG 4035 ((p_e.bC.length:Int) != (p_e.eu.length:Int)) (.rt [1,46] 1 (true))<|
 .nu p_e.bC aQ.lf<|
 .rt [1,46] 1 ((p_e.bC.length:Int)==0))<|
 .rt [1,46] 1 (false))<|
 .iG 4027 (p_e.fOp==34) (.nu p_e.bC aQ.lf<|
 .nu p_e.eu lfS<|
 .iG 4035 ((p_e.bC.length:Int) != (p_e.eu.length:Int)) (.rt [1,46] 1 (true))<|
 .nu p_e.bC aQ.lf<|
 .rt [1,46] 1 ((p_e.bC.length:Int)==0))<|
 .rt [1,46] 1 (false)
def aaU(p_e:aQ):Mo (Bool):=
 .iG 8003 (p_e.fOp==2) (.cl (NQ p_e.cO) fun r0 _=>
 .rt [1,55] 1 (!r0))<|
 .rt [1,55] 1 (false)
def TQ(p_e:aQ)(r0:Bool):Mo (Bool):=
 .iG 8009 (r0) (.rt [1,72] 1 (true))<|
 .iG 8013 (p_e.fOp==3) (.nu p_e.cO lfS<|
 .iG 8019 (decide ((0:Int)<(p_e.cO.length:Int))) (.cl (NQ p_e.cO) fun r1 _=>
 .rt [1,72] 1 (!r1))<|
 .rt [1,72] 1 (false))<|
 .rt [1,72] 1 (false)
def TR(p_e:aQ):Mo (Bool):=
 .oV 12003 (p_e.fOp==3) [1,80] 1 (p_e.fOp==32)
def TS(p_e:aQ)(r0:Bool):Mo (Bool):=
 .oV 12008 (r0) [1,85] 1 (p_e.fOp==33)
def TU(p_e:aQ)(r0:Bool):Mo (Unit):=
 .rt [1,3] 1 ()
def TV(p_e:aQ)(r0:Bool):Mo (Bool):=
 .iG 14001 (r0) (.cl (Dh p_e.fName) fun r1 _=>
 .rt [1,3,92] 1 (!r1))<|
 .rt [1,3,92] 1 (false)
def TW(p_e:aQ)(r0:Bool)(r1:Bool):Mo (Bool):=
 .iG 14007 (r1) (.rt [1,3,103] 1 (true))<|
 .iG 14011 (p_e.fOp==34) (.cl (avv p_e.eu) fun r2 _=>
 .rt [1,3,103] 1 (!r2))<|
 .rt [1,3,103] 1 (false)
def TY(p_e:aQ)(r0:Bool):Mo (Bool):=
 .iG 18003 (p_e.fOp==1) (.cl (tY p_e.fArg) fun r1 _=>
 .rt [1,3,112] 1 (!r1))<|
 .rt [1,3,112] 1 (false)
def Ua(p_e:aQ)(r0:Bool):Mo (Bool):=
 .aV 22003 (p_e.fOp != 2) [1,3,120] 1 (p_e.fOp != 3)
def Ub(p_e:aQ)(r0:Bool)(r1:Bool):Mo (Bool):=
 .iG 22008 (r1) (.nu p_e.cO lfS<|
 .rt [1,3,126] 1 (decide ((0:Int)<(p_e.cO.length:Int))))<|
 .rt [1,3,126] 1 (false)
def Uc(p_e:aQ)(r0:Bool)(r1:Bool):Mo (Bool):=
 .iG 22014 (r1) (.rt [1,135] 1 (true))<|
 .aV 22017 (!r0) [1,135] 1 (!decide ((p_e.fName:ByteArray)=(⟨#[]⟩:ByteArray)))
def Ud(p_e:aQ)(r0:Bool):Mo (Bool):=
 .iG 22023 (r0) (.rt [1,146] 1 (true))<|
 .iG 22027 (p_e.fOp != 34) (.nu p_e.eu lfS<|
 .rt [1,146] 1 (decide ((0:Int)<(p_e.eu.length:Int))))<|
 .rt [1,146] 1 (false)
def Ue(p_e:aQ)(r0:Bool):Mo (Bool):=
 .iG 22034 (r0) (.rt [1,158] 1 (true))<|
 .iG 22038 (p_e.fOp != 1) (.cl (X7 p_e.fArg (ah.mk 0 0 ⟨#[]⟩ [] [])) fun r1 _=>
 .rt [1,158] 1 (!r1))<|
 .rt [1,158] 1 (false)
def Uf(p_e:aQ)(r0:Bool):Mo (Bool):=
 .iG 22046 (r0) (.ret ⟨[.kill 0],[163],[],1⟩ (true))<|
 .ret ⟨[.kill 0],[163],[],1⟩ (p_e.fN != 0)
def asr(p_e:aQ):Mo (Int):=
 .jk Tryz.f337 0 [1,0,0] 9 (fun r_=>⟨[(1,.ptr 0 0),(46,.b_ r_)],[dM p_e]⟩) ⟨[(1,.ptr 0 0)],[dM p_e]⟩ (aaT p_e) fun r0=>
 .iB (r0) (.ret (aU 1) (11))<|
 .sf Tryz.f337 0 [1,1,0,0] 0 9 3 [(1,.ptr 0 0)] [dM p_e] 55 (aaU p_e) fun r1=>
 .sb Tryz.f337 0 [1,1,0,0] 9 17 3 [(1,.ptr 0 0)] [dM p_e] 55 72 r1 (TQ p_e r1) fun r2=>
 .iB (r2) (.ret (aU 1) (10))<|
 .sf Tryz.f337 0 [1,1,1,0] 0 8 5 [(1,.ptr 0 0)] [dM p_e] 80 (TR p_e) fun r3=>
 .sb Tryz.f337 0 [1,1,1,0] 8 5 5 [(1,.ptr 0 0)] [dM p_e] 80 85 r3 (TS p_e r3) fun r4=>
 .sk Tryz.f337 0 [1,1,1,0] 13 1 5 (fun r_=>⟨[(1,.ptr 0 0),(3,.b_ r4)],[dM p_e]⟩) ⟨[(1,.ptr 0 0),(85,.b_ r4)],[dM p_e]⟩ (TU p_e r4) fun r5=>
 .sf Tryz.f337 0 [1,1,1,1,0,0] 0 7 6 [(1,.ptr 0 0),(3,.b_ r4)] [dM p_e] 92 (TV p_e r4) fun r6=>
 .sb Tryz.f337 0 [1,1,1,1,0,0] 7 11 6 [(1,.ptr 0 0),(3,.b_ r4)] [dM p_e] 92 103 r6 (TW p_e r4 r6) fun r7=>
 .iB (r7) (.ret (aU 1) (9))<|
 .jk Tryz.f337 0 [1,1,1,1,1,0,0] 23 (fun r_=>⟨[(1,.ptr 0 0),(3,.b_ r4),(112,.b_ r_)],[dM p_e]⟩) ⟨[(1,.ptr 0 0),(3,.b_ r4)],[dM p_e]⟩ (TY p_e r4) fun r8=>
 .iB (r8) (.ret (aU 1) (8))<|
 .sf Tryz.f337 0 [1,1,1,1,1,1,0,0] 0 8 10 [(1,.ptr 0 0),(3,.b_ r4)] [dM p_e] 120 (Ua p_e r4) fun r9=>
 .sb Tryz.f337 0 [1,1,1,1,1,1,0,0] 8 6 10 [(1,.ptr 0 0),(3,.b_ r4)] [dM p_e] 120 126 r9 (Ub p_e r4 r9) fun r10=>
 .sk Tryz.f337 0 [1,1,1,1,1,1,0,0] 14 9 10 (fun r_=>⟨[(1,.ptr 0 0),(135,.b_ r_)],[dM p_e]⟩) ⟨[(1,.ptr 0 0),(3,.b_ r4),(126,.b_ r10)],[dM p_e]⟩ (Uc p_e r4 r10) fun r11=>
 .sb Tryz.f337 0 [1,1,1,1,1,1,0,0] 23 11 10 [(1,.ptr 0 0)] [dM p_e] 135 146 r11 (Ud p_e r11) fun r12=>
 .sb Tryz.f337 0 [1,1,1,1,1,1,0,0] 34 12 10 [(1,.ptr 0 0)] [dM p_e] 146 158 r12 (Ue p_e r12) fun r13=>
 .sk Tryz.f337 0 [1,1,1,1,1,1,0,0] 46 5 10 (fun r_=>⟨[(163,.b_ r_)],[.dead]⟩) ⟨[(1,.ptr 0 0),(158,.b_ r13)],[dM p_e]⟩ (Uf p_e r13) fun r14=>
 .iB (r14) (.ret (aU 1) (4))<|
 .ret (aU 1) (0)
def Q10(p_e:aQ):Option (Int):=Mo.den (asr p_e)
theorem avw(p_e:aQ):FV (Q10 p_e) 337 [.dat (aQ.lf1 p_e)] .i_:=dw Tryz.func337
abbrev X8(m:aQ→Int→Int→Option (Int×Int)):Prop:=∀p_e p_number p_level,FV (m p_e p_number p_level) 321 [.dat (aQ.lf1 p_e),.i_ p_number,.i_ p_level] (fun r=>.tup [.i_ r.1,.i_ r.2])
structure aiJ where
 m1:(p_e:aQ)→(p_number:Int)→(p_level:Int)→Option (Int×Int)
 ok1:X8 m1
def NZ(R_:aiJ)(p_e:aQ)(p_level:Int)(p_number:Int):Mo (Bool):=
 .oV 4002 (decide ((16:Int)<p_level)) [1,2,3,17] 1 (decide ((256:Int)<p_number))
def zf(R_:aiJ)(p_e:aQ)(p_level:Int):(Int×Int)→Mo ((Int×Int)⊕(Int×Int)⊕(Int)):=fun(v0,v1)=>
 .nu p_e.bC aQ.lf<|
 .iB (decide ((v1:Int)<(p_e.bC.length:Int))) (.gx aQ.aX p_e.bC v1 fun x0 _=>
 .cl (R_.ok1 x0 (IntKind.wrap .i64 (v0+1)) (IntKind.wrap .i64 (p_level+1))) fun r0 _=>
 .iB (r0.2 != 0) (.ret ⟨[.kill 0],[6,7],[],1⟩ (.inr (.inl (r0.1,r0.2))))<|
 .rt [1,2,3,9] 1 (.inl (r0.1,IntKind.wrap .i64 (v1+1))))<|
 .ret ⟨[.kill 0],[1],[],1⟩ (.inr (.inr (v0)))
def anj(R_:aiJ)(p_e:aQ)(p_level:Int)(v0:Int)(v1:Int):Option ((Int×Int)⊕(Int)):=bV (fun v_=>(zf R_ p_e p_level v_).den) FU (v0,v1)
def Ug(R_:aiJ)(p_e:aQ)(p_number:Int)(p_level:Int):Mo (Int×Int):=
 .jk Tryz.f321 0 [1,0,0] 9 (fun r_=>⟨[(1,.i_ p_number),(2,.i_ p_level),(3,.ptr 0 0),(17,.b_ r_)],[dM p_e]⟩) ⟨[(1,.i_ p_number),(2,.i_ p_level),(3,.ptr 0 0)],[dM p_e]⟩ (NZ R_ p_e p_level p_number) fun r0=>
 .iB (r0) (.ret (aU 2) (p_number,2))<|
 .cl (avw p_e) fun r1 _=>
 .iB (r1 != 0) (.ret (aU 2) (p_number,r1))<|
 .l2m [] Tryz.f321 0 [1,1,1,0,1,0] 0 (fun(v0,v1)=>⟨[(1,.i_ v0),(2,.i_ p_level),(3,.ptr 0 0),(9,.i_ v1)],[dM p_e]⟩) .ret (fun o_=>⟨[(6,.i_ o_.1),(7,.i_ o_.2)],[.dead]⟩) (.exit 0) (fun o_=>⟨[(1,.i_ o_)],[.dead]⟩) (anj R_ p_e p_level p_number 0) (zf R_ p_e p_level) (p_number,0) (fun o0=>
 .ret (aU 2) (o0.1,o0.2)) fun o1=>
 .ret (aU 2) (o1,0)
theorem arp(R_:aiJ):X8 fun p_e p_number p_level=>Mo.den (Ug R_ p_e p_number p_level):=fun _ _ _=>dw Tryz.func321
def xw:Nat→aiJ
 |0=>{ m1:=fun p_e p_number p_level=>none,ok1:=fun _ _ _ _ h=>(by cases h) }
 |n_+1=>{ m1:=fun p_e p_number p_level=>Mo.den (Ug (xw n_) p_e p_number p_level),ok1:=arp (xw n_) }
def Q58(p_e:aQ)(p_number:Int)(p_level:Int):Option (Int×Int):=(xw FU).m1 p_e p_number p_level
theorem avx:X8 Q58:=(xw FU).ok1
def ank(p_e:aQ):Mo (Int):=
 .cl (avx p_e 1 1) fun r0 _=>
 .ret (aU 1) (r0.2)
def avy(p_e:aQ):Option (Int):=Mo.den (ank p_e)
theorem arq(p_e:aQ):FV (avy p_e) 272 [.dat (aQ.lf1 p_e)] .i_:=dw Tryz.func272
abbrev X9(m:aO→Bool→Option (Int)):Prop:=∀p_p p_elem,FV (m p_p p_elem) 199 [.dat (aO.lf1 p_p),.b_ p_elem] .i_
structure wo where
 m1:(p_p:aO)→(p_elem:Bool)→Option (Int)
 ok1:X9 m1
def ag3(R_:wo)(p_elem:Bool)(p_p:aO):Mo (Bool):=
 .oV 4003 (decide ((p_p.fOp:Int)<1)) [1,2,16] 1 (decide ((24:Int)<p_p.fOp))
def ag4(R_:wo)(p_elem:Bool)(p_p:aO)(r0:Bool):Mo (Bool):=
 .iG 4008 (r0) (.rt [1,2,21] 1 (true))<|
 .cl (ari p_p) fun r1 _=>
 .rt [1,2,21] 1 (!r1)
def aaV(R_:wo)(p_elem:Bool)(p_p:aO)(r0:Bool):Mo (Bool):=
 .iG 4013 (r0) (.rt [1,2,32] 1 (true))<|
 .cl (X3 p_p.fOp) fun r1 _=>
 .iG 4017 (r1) (.nu p_p.fArgs ah.lf<|
 .rt [1,2,32] 1 ((p_p.fArgs.length:Int)==0))<|
 .rt [1,2,32] 1 (false)
def aaW(R_:wo)(p_elem:Bool)(p_p:aO)(r0:Bool):Mo (Bool):=
 .iG 4024 (r0) (.rt [1,2,37] 1 (true))<|
 .cl (arj p_p) fun r1 _=>
 .rt [1,2,37] 1 (!r1)
def aaX(R_:wo)(p_elem:Bool)(p_p:aO):Mo (Bool):=
 .cl (agX p_p.fOp) fun r0 _=>
 .iG 8003 (r0) (.cl (NQ p_p.cO) fun r1 _=>
 .rt [1,2,46] 1 (!r1))<|
 .rt [1,2,46] 1 (false)
def aaY(R_:wo)(p_elem:Bool)(p_p:aO)(r0:Bool):Mo (Bool):=
 .iG 8009 (r0) (.iG 8011 (p_elem) (.nu p_p.cO lfS<|
 .rt [1,2,56] 1 (!((p_p.cO.length:Int)==0)))<|
 .rt [1,2,56] 1 (true))<|
 .rt [1,2,56] 1 (false)
def aaZ(R_:wo)(p_elem:Bool)(p_p:aO):Mo (Bool):=
 .cl (agY p_p.fOp) fun r0 _=>
 .iG 12003 (r0) (.cl (tY p_p.fArg) fun r1 _=>
 .iG 12008 (!r1) (.rt [1,2,76] 1 (true))<|
 .cl (X4 p_p.fOp) fun r2 _=>
 .aV 12012 (r2) [1,2,76] 1 (p_p.fArg.aF != 4))<|
 .rt [1,2,76] 1 (false)
def ES(R_:wo)(p_elem:Bool)(p_p:aO)(v0:Int):Mo (Bool):=
 .nu p_p.fArgs ah.lf<|
 .aC 18005 (decide ((v0:Int)<(p_p.fArgs.length:Int))) [1,2,5,86] 1 (X3 p_p.fOp)
def zh(R_:wo)(p_elem:Bool)(p_p:aO):(Int)→Mo ((Int)⊕(Unit⊕Unit)):=fun(v0)=>
 .jk Tryz.f199 0 [1,1,1,1,0,1,0,0,0,0] 23 (fun r_=>⟨[(1,.b_ p_elem),(2,.ptr 0 0),(5,.i_ v0),(86,.b_ r_)],[dA p_p]⟩) ⟨[(1,.b_ p_elem),(2,.ptr 0 0),(5,.i_ v0)],[dA p_p]⟩ (ES R_ p_elem p_p v0) fun r0=>
 .iB (r0) (.gx ah.aX p_p.fArgs v0 fun x0 _=>
 .cl (tY x0) fun r1 _=>
 .iB (!r1) (.ret ⟨[.kill 0],[4],[],1⟩ (.inr (.inl ())))<|
 .rt [1,2,5] 1 (.inl (IntKind.wrap .i64 (v0+1))))<|
 .rt [1,2] 1 (.inr (.inr (())))
def aes(R_:wo)(p_elem:Bool)(p_p:aO)(v0:Int):Option (Unit⊕Unit):=bV (fun v_=>(zh R_ p_elem p_p v_).den) FU (v0)
def aa0(R_:wo)(p_elem:Bool)(p_p:aO):Mo ((Int)⊕Unit):=
 .iB (p_p.fOp==18) (.cl (avr p_p.dI) fun r0 _=>
 .iB (r0 != 0) (.ret ⟨[.kill 0],[4],[],1⟩ (.inl (r0)))<|
 .rt [1,2] 1 (.inr (())))<|
 .rt [1,2] 1 (.inr (()))
def aa1(R_:wo)(p_elem:Bool)(p_p:aO)(v0:Int):Mo (Int):=
 .ask (mg p_p.bC v0) fun x0 h0=>
 .say [] (ok1 (iy aO.aX h0))<|
 .ite (p_elem) (fun c0=>
 .say [] (ok1 c0)<|
 .ask (R_.m1 x0 true) fun r0 h1=>
 .say [.jf (.q 0 (.q 1 (.q 2 (.q 3 (.q 4 (.q 5 (.q 6 (.q 7 (.q 8 (.q 9 (.q 10 (.l 11 (.q 12 .fin))))))))))))) (some 11) [] [.row (aO.lf1 x0),.gd 48006 true,.res (.i_ r0)] [1,2,7,8] 1 [(1,.b_ p_elem),(2,.ptr 0 0),(7,.i_ v0),(8,.i_ r0)] [dA p_p]] (okc (R_.ok1 _ _ _ h1) (ok1 (rf_ ⟨[(1,.b_ p_elem),(2,.ptr 0 0),(7,.i_ v0),(8,.i_ r0)],[dA p_p]⟩)))<|
 .rt [1,2,7,8] 1 (r0)) fun c0=>
 .say [] (ok1 c0)<|
 .ask (R_.m1 x0 (p_p.fOp==15)) fun r1 h2=>
 .say [.jf (.q 0 (.q 1 (.q 2 (.q 3 (.q 4 (.q 5 (.q 6 (.q 7 (.q 8 (.q 9 (.q 10 (.l 11 (.q 12 .fin))))))))))))) (some 11) [] [.row (aO.lf1 x0),.gd 48006 false,.res (.i_ r1)] [1,2,7,8] 1 [(1,.b_ p_elem),(2,.ptr 0 0),(7,.i_ v0),(8,.i_ r1)] [dA p_p]] (okc (R_.ok1 _ _ _ h2) (ok1 (rf_ ⟨[(1,.b_ p_elem),(2,.ptr 0 0),(7,.i_ v0),(8,.i_ r1)],[dA p_p]⟩)))<|
 .rt [1,2,7,8] 1 (r1)
def aeu(R_:wo)(p_elem:Bool)(p_p:aO)(v0:Int):Option (Int):=Mo.den (aa1 R_ p_elem p_p v0)
def zi(R_:wo)(p_elem:Bool)(p_p:aO):(Int)→Mo ((Int)⊕(Int)⊕Unit):=fun(v0)=>
 .nu p_p.bC aO.lf<|
 .iB (decide ((v0:Int)<(p_p.bC.length:Int))) (.jp Tryz.f199 0 [1,1,1,1,1,1,1,1,0,1,0,0,1,0,0,0] 53 [1,2,7] 1 (.normal) (fun r_=>⟨[(1,.b_ p_elem),(2,.ptr 0 0),(7,.i_ v0),(8,.i_ r_)],[dA p_p]⟩) ⟨[(1,.b_ p_elem),(2,.ptr 0 0),(7,.i_ v0)],[dA p_p]⟩ (aeu R_ p_elem p_p v0) (jW (by kernel_rfl)) fun r0 _=>
 .iB (r0 != 0) (.ret ⟨[.kill 0],[4],[],1⟩ (.inr (.inl (r0))))<|
 .rt [1,2,7] 1 (.inl (IntKind.wrap .i64 (v0+1))))<|
 .ret ⟨[.kill 0],[],[],1⟩ (.inr (.inr (())))
def xA(R_:wo)(p_elem:Bool)(p_p:aO)(v0:Int):Option ((Int)⊕Unit):=bV (fun v_=>(zi R_ p_elem p_p v_).den) FU (v0)
def ars(R_:wo)(p_p:aO)(p_elem:Bool):Mo (Int):=
 .sf Tryz.f199 0 [1,0,0] 0 8 1 [(1,.b_ p_elem),(2,.ptr 0 0)] [dA p_p] 16 (ag3 R_ p_elem p_p) fun r0=>
 .sb Tryz.f199 0 [1,0,0] 8 5 1 [(1,.b_ p_elem),(2,.ptr 0 0)] [dA p_p] 16 21 r0 (ag4 R_ p_elem p_p r0) fun r1=>
 .sb Tryz.f199 0 [1,0,0] 13 11 1 [(1,.b_ p_elem),(2,.ptr 0 0)] [dA p_p] 21 32 r1 (aaV R_ p_elem p_p r1) fun r2=>
 .sb Tryz.f199 0 [1,0,0] 24 5 1 [(1,.b_ p_elem),(2,.ptr 0 0)] [dA p_p] 32 37 r2 (aaW R_ p_elem p_p r2) fun r3=>
 .iB (r3) (.ret (aU 1) (11))<|
 .sf Tryz.f199 0 [1,1,0,0] 0 9 3 [(1,.b_ p_elem),(2,.ptr 0 0)] [dA p_p] 46 (aaX R_ p_elem p_p) fun r4=>
 .sb Tryz.f199 0 [1,1,0,0] 9 10 3 [(1,.b_ p_elem),(2,.ptr 0 0)] [dA p_p] 46 56 r4 (aaY R_ p_elem p_p r4) fun r5=>
 .iB (r5) (.ret (aU 1) (10))<|
 .jk Tryz.f199 0 [1,1,1,0,0] 17 (fun r_=>⟨[(1,.b_ p_elem),(2,.ptr 0 0),(76,.b_ r_)],[dA p_p]⟩) ⟨[(1,.b_ p_elem),(2,.ptr 0 0)],[dA p_p]⟩ (aaZ R_ p_elem p_p) fun r6=>
 .iB (r6) (.ret (aU 1) (8))<|
 .l2m [] Tryz.f199 0 [1,1,1,1,0,1,0] 0 (fun(v0)=>⟨[(1,.b_ p_elem),(2,.ptr 0 0),(5,.i_ v0)],[dA p_p]⟩) .ret (fun _=>⟨[(4,.i_ 8)],[.dead]⟩) (.exit 0) (fun _=>⟨[(1,.b_ p_elem),(2,.ptr 0 0)],[dA p_p]⟩) (aes R_ p_elem p_p 0) (zh R_ p_elem p_p) (0) (fun o0=>
 .ret (aU 1) (8)) fun o1=>
 .j2 [] Tryz.f199 0 [1,1,1,1,1,0,1] 1 .ret (fun o_=>⟨[(4,.i_ o_)],[.dead]⟩) .normal (fun _=>⟨[(1,.b_ p_elem),(2,.ptr 0 0)],[dA p_p]⟩) ⟨[(1,.b_ p_elem),(2,.ptr 0 0),(98,.lf (.bool (p_p.fOp==18)))],[dA p_p]⟩ (aa0 R_ p_elem p_p) (fun o2=>
 .ret (aU 1) (o2)) fun o3=>
 .cl (avt p_p) fun r7 _=>
 .iB (!r7) (.ret (aU 1) (4))<|
 .iB (p_p.fOp==24) (.cl (arq p_p.fExpr) fun r8 _=>
 .ret (aU 1) (r8))<|
 .l2m [] Tryz.f199 0 [1,1,1,1,1,1,1,1,0,1,0] 0 (fun(v1)=>⟨[(1,.b_ p_elem),(2,.ptr 0 0),(7,.i_ v1)],[dA p_p]⟩) .ret (fun o_=>⟨[(4,.i_ o_)],[.dead]⟩) (.exit 2) (fun _=>⟨[],[.dead]⟩) (xA R_ p_elem p_p 0) (zi R_ p_elem p_p) (0) (fun o4=>
 .ret (aU 1) (o4)) fun o5=>
 .ret (aU 1) (0)
theorem avz(R_:wo):X9 fun p_p p_elem=>Mo.den (ars R_ p_p p_elem):=fun _ _=>dw Tryz.func199
def qQ:Nat→wo
 |0=>{ m1:=fun p_p p_elem=>none,ok1:=fun _ _ _ h=>(by cases h) }
 |n_+1=>{ m1:=fun p_p p_elem=>Mo.den (ars (qQ n_) p_p p_elem),ok1:=avz (qQ n_) }
def Q2(p_p:aO)(p_elem:Bool):Option (Int):=(qQ FU).m1 p_p p_elem
theorem awS:X9 Q2:=(qQ FU).ok1
def anl(p_p:aO):Mo (Int):=
 .cl (avm p_p 16 256) fun r0 _=>
 .iB (decide ((r0:Int)<0)) (.ret (aU 1) (2))<|
 .cl (awS p_p false) fun r1 _=>
 .ret (aU 1) (r1)
def avA(p_p:aO):Option (Int):=Mo.den (anl p_p)
theorem aru(p_p:aO):FV (avA p_p) 129 [.dat (aO.lf1 p_p)] .i_:=dw Tryz.func129
def anm(p_a:List ByteArray)(p_b:List ByteArray):Mo (Bool):=
 .nu p_a lfS<|
 .nu p_b lfS<|
 .iB (decide (((p_b.length:Int):Int)<(p_a.length:Int))) (.ret (aU 1) (false))<|
 .l2m [] Tryz.f322 0 [1,1,0,1,0] 0 (fun(v0)=>⟨[(0,.lf (.rows 1 (p_a.map lfS))),(1,.lf (.rows 1 (p_b.map lfS))),(5,.i_ v0)],[]⟩) .ret (fun _=>⟨[(4,.b_ false)],[]⟩) (.exit 0) (fun _=>⟨[],[]⟩) (aen p_a p_b 0) (vY p_a p_b) (0) (fun o0=>
 .ret (aU 1) (false)) fun o1=>
 .ret (aU 1) (true)
def awT(p_a:List ByteArray)(p_b:List ByteArray):Option (Bool):=Mo.den (anm p_a p_b)
theorem arv(p_a:List ByteArray)(p_b:List ByteArray):FV (awT p_a p_b) 322 [.lf (.rows 1 (p_a.map lfS)),.lf (.rows 1 (p_b.map lfS))] .b_:=dw Tryz.func322
def ano(p_a:List ByteArray)(p_b:List ByteArray):Mo (Bool):=
 .nu p_a lfS<|
 .nu p_b lfS<|
 .iG 4005 ((p_a.length:Int)==(p_b.length:Int)) (.cl (arv p_a p_b) fun r0 _=>
 .ret (aU 1) (r0))<|
 .ret (aU 1) (false)
def avC(p_a:List ByteArray)(p_b:List ByteArray):Option (Bool):=Mo.den (ano p_a p_b)
theorem ag5(p_a:List ByteArray)(p_b:List ByteArray):FV (avC p_a p_b) 273 [.lf (.rows 1 (p_a.map lfS)),.lf (.rows 1 (p_b.map lfS))] .b_:=dw Tryz.func273
abbrev Ya(m:aQ→aQ→Option (Bool)):Prop:=∀p_a p_b,FV (m p_a p_b) 201 [.dat (aQ.lf1 p_a),.dat (aQ.lf1 p_b)] .b_
structure N7 where
 m1:(p_a:aQ)→(p_b:aQ)→Option (Bool)
 ok1:Ya m1
def aa2(R_:N7)(p_a:aQ)(p_b:aQ):Mo (Bool):=
 .iG 4005 (p_a.fOp != p_b.fOp) (.rt [2,3,18] 2 (true))<|
 .cl (ag5 p_a.cO p_b.cO) fun r0 _=>
 .rt [2,3,18] 2 (!r0)
def aa3(R_:N7)(p_a:aQ)(p_b:aQ)(r0:Bool):Mo (Bool):=
 .oV 4013 (r0) [2,3,25] 2 (!decide ((p_a.fName:ByteArray)=(p_b.fName:ByteArray)))
def Uh(R_:N7)(p_a:aQ)(p_b:aQ)(r0:Bool):Mo (Bool):=
 .iG 4020 (r0) (.rt [2,3,33] 2 (true))<|
 .cl (ag5 p_a.eu p_b.eu) fun r1 _=>
 .rt [2,3,33] 2 (!r1)
def Ui(R_:N7)(p_a:aQ)(p_b:aQ)(r0:Bool):Mo (Bool):=
 .iG 4028 (r0) (.rt [2,3,41] 2 (true))<|
 .cl (X7 p_a.fArg p_b.fArg) fun r1 _=>
 .rt [2,3,41] 2 (!r1)
def Uj(R_:N7)(p_a:aQ)(p_b:aQ)(r0:Bool):Mo (Bool):=
 .oV 4036 (r0) [2,3,48] 2 (p_a.fN != p_b.fN)
def Uk(R_:N7)(p_a:aQ)(p_b:aQ)(r0:Bool):Mo (Bool):=
 .iG 4043 (r0) (.rt [2,3,57] 2 (true))<|
 .nu p_a.bC aQ.lf<|
 .nu p_b.bC aQ.lf<|
 .rt [2,3,57] 2 ((p_a.bC.length:Int) != (p_b.bC.length:Int))
def Ir(R_:N7)(p_a:aQ)(p_b:aQ):(Int)→Mo ((Int)⊕(Unit⊕Unit)):=fun(v0)=>
 .nu p_a.bC aQ.lf<|
 .iB (decide ((v0:Int)<(p_a.bC.length:Int))) (.ask (mg p_a.bC v0) fun x0 h0=>
 .say [] (ok1 (iy aQ.aX h0))<|
 .ask (mg p_b.bC v0) fun x1 h1=>
 .say [] (ok1 (iy aQ.aX h1))<|
 .ask (R_.m1 x0 x1) fun r0 h2=>
 .say [.jf (.q 0 (.q 1 (.q 2 (.q 3 (.q 4 (.q 5 (.q 6 (.q 7 (.q 8 (.q 9 (.l 10 (.q 11 .fin)))))))))))) (some 10) [] [.row (aQ.lf1 x0),.row (aQ.lf1 x1),.res (.b_ r0)] [2,3,5,76] 2 [(2,.ptr 0 0),(3,.ptr 1 0),(5,.i_ v0),(76,.lf (.bool (!r0)))] [dM p_a,dM p_b]] (okc (R_.ok1 _ _ _ h2) (ok1 (rf_ ⟨[(2,.ptr 0 0),(3,.ptr 1 0),(5,.i_ v0),(76,.lf (.bool (!r0)))],[dM p_a,dM p_b]⟩)))<|
 .iB (!r0) (.ret ⟨[.kill 0,.kill 1],[4],[],2⟩ (.inr (.inl ())))<|
 .rt [2,3,5] 2 (.inl (IntKind.wrap .i64 (v0+1))))<|
 .ret ⟨[.kill 0,.kill 1],[],[],2⟩ (.inr (.inr (())))
def ag6(R_:N7)(p_a:aQ)(p_b:aQ)(v0:Int):Option (Unit⊕Unit):=bV (fun v_=>(Ir R_ p_a p_b v_).den) FU (v0)
def ag7(R_:N7)(p_a:aQ)(p_b:aQ):Mo (Bool):=
 .sf Tryz.f201 0 [1,0,0] 0 13 1 [(2,.ptr 0 0),(3,.ptr 1 0)] [dM p_a,dM p_b] 18 (aa2 R_ p_a p_b) fun r0=>
 .sb Tryz.f201 0 [1,0,0] 13 7 1 [(2,.ptr 0 0),(3,.ptr 1 0)] [dM p_a,dM p_b] 18 25 r0 (aa3 R_ p_a p_b r0) fun r1=>
 .sb Tryz.f201 0 [1,0,0] 20 8 1 [(2,.ptr 0 0),(3,.ptr 1 0)] [dM p_a,dM p_b] 25 33 r1 (Uh R_ p_a p_b r1) fun r2=>
 .sb Tryz.f201 0 [1,0,0] 28 8 1 [(2,.ptr 0 0),(3,.ptr 1 0)] [dM p_a,dM p_b] 33 41 r2 (Ui R_ p_a p_b r2) fun r3=>
 .sb Tryz.f201 0 [1,0,0] 36 7 1 [(2,.ptr 0 0),(3,.ptr 1 0)] [dM p_a,dM p_b] 41 48 r3 (Uj R_ p_a p_b r3) fun r4=>
 .sb Tryz.f201 0 [1,0,0] 43 9 1 [(2,.ptr 0 0),(3,.ptr 1 0)] [dM p_a,dM p_b] 48 57 r4 (Uk R_ p_a p_b r4) fun r5=>
 .iB (r5) (.ret (aU 1) (false))<|
 .l2m [] Tryz.f201 0 [1,1,0,1,0] 0 (fun(v0)=>⟨[(2,.ptr 0 0),(3,.ptr 1 0),(5,.i_ v0)],[dM p_a,dM p_b]⟩) .ret (fun _=>⟨[(4,.b_ false)],[.dead,.dead]⟩) (.exit 0) (fun _=>⟨[],[.dead,.dead]⟩) (ag6 R_ p_a p_b 0) (Ir R_ p_a p_b) (0) (fun o0=>
 .ret (aU 1) (false)) fun o1=>
 .ret (aU 1) (true)
theorem arw(R_:N7):Ya fun p_a p_b=>Mo.den (ag7 R_ p_a p_b):=fun _ _=>dw Tryz.func201
def Iu:Nat→N7
 |0=>{ m1:=fun p_a p_b=>none,ok1:=fun _ _ _ h=>(by cases h) }
 |n_+1=>{ m1:=fun p_a p_b=>Mo.den (ag7 (Iu n_) p_a p_b),ok1:=arw (Iu n_) }
def Q30(p_a:aQ)(p_b:aQ):Option (Bool):=(Iu FU).m1 p_a p_b
theorem avD:Ya Q30:=(Iu FU).ok1
end
end Go.Proofs.YtflpefkohpjjpaaGreatDoor
