/- Printed by dec.py. -/
import Derived.Test.YtflpefkohpjjpaaGreatDoorQNNw3
set_option linter.unusedSimpArgs false
set_option linter.unusedVariables false
namespace Go.Proofs.YtflpefkohpjjpaaGreatDoor
open Go.RowKit
set_option maxRecDepth 20000
set_option maxHeartbeats 4000000
noncomputable section
abbrev xk(m:ay→ak→Option (ak)):Prop:=∀p_s p_b0,FH (m p_s p_b0) 135 [.ptr 0 0,.dat (ay.lf1 p_s)] [.box 75 (.agg [.own 1,.b_ p_b0.bK]),.row 5 1 (p_b0.aO.map (lfK .u8))] (fun _=>.tup []) (fun r=>[.box 75 (.agg [.own 2,.b_ r.bK]),.dead,.row 5 1 (r.aO.map (lfK .u8))])
abbrev DW(m:(List bn)→ak→Option (ak)):Prop:=∀p_l p_b0,FH (m p_l p_b0) 210 [.ptr 0 0,.lf (.rows 22 (p_l.map bn.lf)),.raw (.func (.func 211) #[] #[])] [.box 75 (.agg [.own 1,.b_ p_b0.bK]),.row 5 1 (p_b0.aO.map (lfK .u8))] (fun _=>.tup []) (fun r=>[.box 75 (.agg [.own 2,.b_ r.bK]),.dead,.row 5 1 (r.aO.map (lfK .u8))])
abbrev DX(m:(List ay)→ak→Option (ak)):Prop:=∀p_l p_b0,FH (m p_l p_b0) 212 [.ptr 0 0,.lf (.rows 21 (p_l.map ay.lf)),.raw (.func (.func 135) #[] #[])] [.box 75 (.agg [.own 1,.b_ p_b0.bK]),.row 5 1 (p_b0.aO.map (lfK .u8))] (fun _=>.tup []) (fun r=>[.box 75 (.agg [.own 2,.b_ r.bK]),.dead,.row 5 1 (r.aO.map (lfK .u8))])
abbrev DY(m:bn→ak→Option (ak)):Prop:=∀p_p p_b0,FH (m p_p p_b0) 211 [.ptr 0 0,.dat (bn.lf1 p_p)] [.box 75 (.agg [.own 1,.b_ p_b0.bK]),.row 5 1 (p_b0.aO.map (lfK .u8))] (fun _=>.tup []) (fun r=>[.box 75 (.agg [.own 2,.b_ r.bK]),.dead,.row 5 1 (r.aO.map (lfK .u8))])
structure tN where
 m1:(p_s:ay)→(p_b0:ak)→Option (ak)
 ok1:xk m1
 m2:(p_l:List bn)→(p_b0:ak)→Option (ak)
 ok2:DW m2
 m3:(p_l:List ay)→(p_b0:ak)→Option (ak)
 ok3:DX m3
 m4:(p_p:bn)→(p_b0:ak)→Option (ak)
 ok4:DY m4
def SA(R_:tN)(p_s:ay)(p_b0:ak):Mo (ak):=
 .cH [0,1] (fA p_s.jo p_b0) fun r0 _=>
 .cH [0,3] (jX p_s.iF r0) fun r1 _=>
 .cH [0,4] (nM p_s.iW r1) fun r2 _=>
 .cH [0,5] (jX p_s.iH r2) fun r3 _=>
 .cH [0,6] (nM p_s.iY r3) fun r4 _=>
 .cH [0,7] (LY p_s.kF r4) fun r5 _=>
 .cH [0,8] (fA p_s.iI r5) fun r6 _=>
 .cH [0,9] (fA p_s.iJ r6) fun r7 _=>
 .cH [0,10] (wY p_s.eP r7) fun r8 _=>
 .cH [0,11] (R_.ok2 p_s.gY r8) fun r9 _=>
 .cH [0,12] (jX p_s.iK r9) fun r10 _=>
 .cH [0,13] (R_.ok3 p_s.gZ r10) fun r11 _=>
 .cH [0,14] (jX p_s.dP r11) fun r12 _=>
 .ret ⟨[.kill 2,.mvn 15],[],[(16,2)],3⟩ (r12)
theorem Qs(R_:tN):xk fun p_s p_b0=>Mo.den (SA R_ p_s p_b0):=fun _ _=>dA Tryz.func135
def Mc(R_:tN)(p_l:List bn):(Int×Bool×(List Int))→Mo ((Int×Bool×(List Int))⊕(Bool×(List Int))):=fun(v0,v1,l0)=>
 .iB (decide ((v0:Int)<(p_l.length:Int))) (.stop)<|
 .rt [] 3 (.inr (v1,l0))
def SB(R_:tN)(p_l:List bn)(p_b0:ak):Mo (ak):=
 .nu p_l bn.lf<|
 .ask (Q2 (p_l.length:Int) p_b0) fun r0 h0=>
 .say [.gU [0,1] (.tup []) [.box 75 (.agg [.own 2,.b_ r0.bK]),.dead,.row 5 1 (r0.aO.map (lfK .u8))],.num p_l.length] (okc (fA _ _ _ h0) (ok1 (ln_ p_l bn.lf)))<|
 .l1 Tryz.f210 2 [1,1,0] 0 (.exit 0) (fun(v0,v1,l0)=>⟨[(0,.ptr 0 0),(2,.raw (.func (.func 211) #[] #[])),(12,.lf (.rows 22 (p_l.map bn.lf))),(13,.i_ (p_l.length:Int)),(14,.i_ v0)],[.box 75 (.agg [.own 2,.b_ v1]),.dead,.row 5 1 (l0.map (lfK .u8))]⟩) (fun r_=>⟨[],[.box 75 (.agg [.own 2,.b_ r_.1]),.dead,.row 5 1 (r_.2.map (lfK .u8))]⟩) (Mc R_ p_l) (0,r0.bK,r0.aO) fun r1=>
 .ret ⟨[.mvn 2],[],[(3,2)],3⟩ (ak.mk r1.2 r1.1)
theorem Qu(R_:tN):DW fun p_l p_b0=>Mo.den (SB R_ p_l p_b0):=fun _ _=>dA Tryz.func210
def Md(R_:tN)(p_l:List ay):(Int×Bool×(List Int))→Mo ((Int×Bool×(List Int))⊕(Bool×(List Int))):=fun(v0,v1,l0)=>
 .iB (decide ((v0:Int)<(p_l.length:Int))) (.stop)<|
 .rt [] 3 (.inr (v1,l0))
def SC(R_:tN)(p_l:List ay)(p_b0:ak):Mo (ak):=
 .nu p_l ay.lf<|
 .ask (Q2 (p_l.length:Int) p_b0) fun r0 h0=>
 .say [.gU [0,1] (.tup []) [.box 75 (.agg [.own 2,.b_ r0.bK]),.dead,.row 5 1 (r0.aO.map (lfK .u8))],.num p_l.length] (okc (fA _ _ _ h0) (ok1 (ln_ p_l ay.lf)))<|
 .l1 Tryz.f212 2 [1,1,0] 0 (.exit 0) (fun(v0,v1,l0)=>⟨[(0,.ptr 0 0),(2,.raw (.func (.func 135) #[] #[])),(12,.lf (.rows 21 (p_l.map ay.lf))),(13,.i_ (p_l.length:Int)),(14,.i_ v0)],[.box 75 (.agg [.own 2,.b_ v1]),.dead,.row 5 1 (l0.map (lfK .u8))]⟩) (fun r_=>⟨[],[.box 75 (.agg [.own 2,.b_ r_.1]),.dead,.row 5 1 (r_.2.map (lfK .u8))]⟩) (Md R_ p_l) (0,r0.bK,r0.aO) fun r1=>
 .ret ⟨[.mvn 2],[],[(3,2)],3⟩ (ak.mk r1.2 r1.1)
theorem Qv(R_:tN):DX fun p_l p_b0=>Mo.den (SC R_ p_l p_b0):=fun _ _=>dA Tryz.func212
def Me(R_:tN)(p_p:bn)(p_b0:ak):Mo (ak):=
 .cH [0,1] (nK p_p.fName p_b0) fun r0 _=>
 .cH [0,3] (R_.ok1 p_p.aI r0) fun r1 _=>
 .ret ⟨[.kill 2,.mvn 4],[],[(5,2)],3⟩ (r1)
theorem MB(R_:tN):DY fun p_p p_b0=>Mo.den (Me R_ p_p p_b0):=fun _ _=>dA Tryz.func211
def jY:Nat→tN
 |0=>{ m1:=fun p_s p_b0=>none,ok1:=fun _ _ _ h=>(by cases h),m2:=fun p_l p_b0=>none,ok2:=fun _ _ _ h=>(by cases h),m3:=fun p_l p_b0=>none,ok3:=fun _ _ _ h=>(by cases h),m4:=fun p_p p_b0=>none,ok4:=fun _ _ _ h=>(by cases h) }
 |n_+1=>{ m1:=fun p_s p_b0=>Mo.den (SA (jY n_) p_s p_b0),ok1:=Qs (jY n_),m2:=fun p_l p_b0=>Mo.den (SB (jY n_) p_l p_b0),ok2:=Qu (jY n_),m3:=fun p_l p_b0=>Mo.den (SC (jY n_) p_l p_b0),ok3:=Qv (jY n_),m4:=fun p_p p_b0=>Mo.den (Me (jY n_) p_p p_b0),ok4:=MB (jY n_) }
def Q79(p_s:ay)(p_b0:ak):Option (ak):=(jY FU).m1 p_s p_b0
theorem Vx:xk Q79:=(jY FU).ok1
def Vy(p_d:cu)(p_b0:ak):Mo (ak):=
 .cH [0,1] (nK p_d.fName p_b0) fun r0 _=>
 .cH [0,3] (Vw p_d.eU r0) fun r1 _=>
 .cH [0,4] (Vx p_d.aI r1) fun r2 _=>
 .cH [0,5] (fA p_d.kR r2) fun r3 _=>
 .cH [0,6] (fA p_d.jE r3) fun r4 _=>
 .ret ⟨[.kill 2,.mvn 7],[],[(8,2)],3⟩ (r4)
def YM(p_d:cu)(p_b0:ak):Option (ak):=Mo.den (Vy p_d p_b0)
theorem Qw(p_d:cu)(p_b0:ak):FH (YM p_d p_b0) 77 [.ptr 0 0,.dat (cu.lf1 p_d)] [.box 75 (.agg [.own 1,.b_ p_b0.bK]),.row 5 1 (p_b0.aO.map (lfK .u8))] (fun _=>.tup []) (fun r=>[.box 75 (.agg [.own 2,.b_ r.bK]),.dead,.row 5 1 (r.aO.map (lfK .u8))]):=dA Tryz.func77
def MC(p_l:List Int):(Int×Bool×(List Int))→Mo ((Int×Bool×(List Int))⊕(Bool×(List Int))):=fun(v0,v1,l0)=>
 .iB (decide ((v0:Int)<(p_l.length:Int))) (.stop)<|
 .rt [] 3 (.inr (v1,l0))
def XH(p_l:List Int)(p_b0:ak):Mo (ak):=
 .nu p_l lfI<|
 .ask (Q2 (p_l.length:Int) p_b0) fun r0 h0=>
 .say [.gU [0,1] (.tup []) [.box 75 (.agg [.own 2,.b_ r0.bK]),.dead,.row 5 1 (r0.aO.map (lfK .u8))],.num p_l.length] (okc (fA _ _ _ h0) (ok1 (ln_ p_l lfI)))<|
 .l1 Tryz.f80 2 [1,1,0] 0 (.exit 0) (fun(v0,v1,l0)=>⟨[(0,.ptr 0 0),(2,.raw (.func (.func 81) #[] #[])),(12,.lf (.rows 1 (p_l.map lfI))),(13,.i_ (p_l.length:Int)),(14,.i_ v0)],[.box 75 (.agg [.own 2,.b_ v1]),.dead,.row 5 1 (l0.map (lfK .u8))]⟩) (fun r_=>⟨[],[.box 75 (.agg [.own 2,.b_ r_.1]),.dead,.row 5 1 (r_.2.map (lfK .u8))]⟩) (MC p_l) (0,r0.bK,r0.aO) fun r1=>
 .ret ⟨[.mvn 2],[],[(3,2)],3⟩ (ak.mk r1.2 r1.1)
def Q82(p_l:List Int)(p_b0:ak):Option (ak):=Mo.den (XH p_l p_b0)
theorem Vz(p_l:List Int)(p_b0:ak):FH (Q82 p_l p_b0) 80 [.ptr 0 0,.lf (.rows 1 (p_l.map lfI)),.raw (.func (.func 81) #[] #[])] [.box 75 (.agg [.own 1,.b_ p_b0.bK]),.row 5 1 (p_b0.aO.map (lfK .u8))] (fun _=>.tup []) (fun r=>[.box 75 (.agg [.own 2,.b_ r.bK]),.dead,.row 5 1 (r.aO.map (lfK .u8))]):=dA Tryz.func80
abbrev xq(m:au→ak→Option (ak)):Prop:=∀p_x p_b0,FH (m p_x p_b0) 36 [.ptr 0 0,.dat (au.lf1 p_x)] [.box 75 (.agg [.own 1,.b_ p_b0.bK]),.row 5 1 (p_b0.aO.map (lfK .u8))] (fun _=>.tup []) (fun r=>[.box 75 (.agg [.own 2,.b_ r.bK]),.dead,.row 5 1 (r.aO.map (lfK .u8))])
abbrev DZ(m:(List au)→ak→Option (ak)):Prop:=∀p_l p_b0,FH (m p_l p_b0) 79 [.ptr 0 0,.lf (.rows 78 (p_l.map au.lf)),.raw (.func (.func 36) #[] #[])] [.box 75 (.agg [.own 1,.b_ p_b0.bK]),.row 5 1 (p_b0.aO.map (lfK .u8))] (fun _=>.tup []) (fun r=>[.box 75 (.agg [.own 2,.b_ r.bK]),.dead,.row 5 1 (r.aO.map (lfK .u8))])
structure G9 where
 m1:(p_x:au)→(p_b0:ak)→Option (ak)
 ok1:xq m1
 m2:(p_l:List au)→(p_b0:ak)→Option (ak)
 ok2:DZ m2
def SE(R_:G9)(p_x:au)(p_b0:ak):Mo (ak):=
 .cH [0,1] (fA p_x.aB p_b0) fun r0 _=>
 .cH [0,3] (nK p_x.fG r0) fun r1 _=>
 .cH [0,4] (nM p_x.gq r1) fun r2 _=>
 .cH [0,5] (nM p_x.bF r2) fun r3 _=>
 .cH [0,6] (nM p_x.cO r3) fun r4 _=>
 .cH [0,7] (Qw p_x.bJ r4) fun r5 _=>
 .cH [0,8] (Qr p_x.aG r5) fun r6 _=>
 .cH [0,9] (nK p_x.lI r6) fun r7 _=>
 .cH [0,10] (fA p_x.dZ r7) fun r8 _=>
 .cH [0,11] (R_.ok2 p_x.dD r8) fun r9 _=>
 .cH [0,12] (Vz p_x.dN r9) fun r10 _=>
 .cH [0,13] (jX p_x.fH r10) fun r11 _=>
 .ret ⟨[.kill 2,.mvn 14],[],[(15,2)],3⟩ (r11)
theorem Qx(R_:G9):xq fun p_x p_b0=>Mo.den (SE R_ p_x p_b0):=fun _ _=>dA Tryz.func36
def MF(R_:G9)(p_l:List au):(Int×Bool×(List Int))→Mo ((Int×Bool×(List Int))⊕(Bool×(List Int))):=fun(v0,v1,l0)=>
 .iB (decide ((v0:Int)<(p_l.length:Int))) (.stop)<|
 .rt [] 3 (.inr (v1,l0))
def SG(R_:G9)(p_l:List au)(p_b0:ak):Mo (ak):=
 .nu p_l au.lf<|
 .ask (Q2 (p_l.length:Int) p_b0) fun r0 h0=>
 .say [.gU [0,1] (.tup []) [.box 75 (.agg [.own 2,.b_ r0.bK]),.dead,.row 5 1 (r0.aO.map (lfK .u8))],.num p_l.length] (okc (fA _ _ _ h0) (ok1 (ln_ p_l au.lf)))<|
 .l1 Tryz.f79 2 [1,1,0] 0 (.exit 0) (fun(v0,v1,l0)=>⟨[(0,.ptr 0 0),(2,.raw (.func (.func 36) #[] #[])),(12,.lf (.rows 78 (p_l.map au.lf))),(13,.i_ (p_l.length:Int)),(14,.i_ v0)],[.box 75 (.agg [.own 2,.b_ v1]),.dead,.row 5 1 (l0.map (lfK .u8))]⟩) (fun r_=>⟨[],[.box 75 (.agg [.own 2,.b_ r_.1]),.dead,.row 5 1 (r_.2.map (lfK .u8))]⟩) (MF R_ p_l) (0,r0.bK,r0.aO) fun r1=>
 .ret ⟨[.mvn 2],[],[(3,2)],3⟩ (ak.mk r1.2 r1.1)
theorem Qy(R_:G9):DZ fun p_l p_b0=>Mo.den (SG R_ p_l p_b0):=fun _ _=>dA Tryz.func79
def pY:Nat→G9
 |0=>{ m1:=fun p_x p_b0=>none,ok1:=fun _ _ _ h=>(by cases h),m2:=fun p_l p_b0=>none,ok2:=fun _ _ _ h=>(by cases h) }
 |n_+1=>{ m1:=fun p_x p_b0=>Mo.den (SE (pY n_) p_x p_b0),ok1:=Qx (pY n_),m2:=fun p_l p_b0=>Mo.den (SG (pY n_) p_l p_b0),ok2:=Qy (pY n_) }
def Q84(p_x:au)(p_b0:ak):Option (ak):=(pY FU).m1 p_x p_b0
theorem VA:xq Q84:=(pY FU).ok1
def VB(p_e:aZ):Mo (ByteArray×Int):=
 .cl (wV p_e) fun r0 _=>
 .iB (r0 != 0) (.stop)<|
 .say [.at_ 12 3,.TK 1 0 5,.iR 2 (([]:List Int).map (lfK .u8))] (ok1 (by simp[lfI,lfK]:(([]:List Int).map (lfK .u8))=[]))<|
 .cH [1,2] (fA p_e.qA (ak.mk ([]:List Int) false)) fun r1 _=>
 .cH [1,3] (fA p_e.dZ r1) fun r2 _=>
 .cH [1,4] (nK p_e.oD r2) fun r3 _=>
 .cH [1,5] (fA p_e.qW r3) fun r4 _=>
 .cH [1,6] (VA p_e.o8 r4) fun r5 _=>
 .iB (r5.bK) (.stop)<|
 .say [.nums r5.aO] (ok1 (by simp[lfI,lfK]:(r5.aO.map (lfK .u8))=r5.aO.map fun n=>[Lf.int .u8 n]))<|
 .ret (dK 2) (strOfNums r5.aO,0)
def XI(p_e:aZ):Option (ByteArray×Int):=Mo.den (VB p_e)
theorem xu(p_e:aZ):FV (XI p_e) 14 [.dat (aZ.lf1 p_e)] (fun r=>.tup [.lf (.str r.1),.i_ r.2]):=dS Tryz.func14
def MG(p_at:Int)(p_s:ByteArray):Mo (Bool):=
 .iG 4002 (decide ((p_at:Int)<0)) (.stop)<|
 .rt [0,1,17] 0 (decide (((p_s.size:Int):Int)<p_at))
def MH(b0:UInt8)(p_at:Int)(p_s:ByteArray)(v0:Int)(v1:Int):Mo (Bool):=
 .iG 20002 (v1==9) (.stop)<|
 .rt [0,1,7,8,9,36] 0 (false)
def He(b0:UInt8)(p_at:Int)(p_s:ByteArray)(r0:Bool)(v0:Int)(v1:Int):Mo (Bool):=
 .iG 20006 (r0) (.stop)<|
 .iG 20009 (decide ((0:Int)<v1)) (.stop)<|
 .rt [0,1,7,8,9,44] 0 (false)
def Hf(p_at:Int)(p_s:ByteArray):(Int×Int)→Mo ((Int×Int)⊕(Int×Int×Int)):=fun(v0,v1)=>
 .iB ((IntKind.wrap .i64 (p_at+v1))==(p_s.size:Int)) (.rt [4,5,6] 0 (.inr (0,0,5)))<|
 .ask (pF p_s (IntKind.wrap .i64 (p_at+v1))) fun b0 h0=>
 .say [.byt b0] (ok1 (je h0))<|
 .sf Tryz.f86 0 [1,1,1,1,0,0,0,0,1,1,0,0] 0 6 9 [(0,.lf (.str p_s)),(1,.i_ p_at),(7,.lf (.int .u64 v0)),(8,.i_ v1),(9,.lf (.int .u8 (b0.toNat:Int)))] [] 36 (MH b0 p_at p_s v0 v1) fun r0=>
 .sb Tryz.f86 0 [1,1,1,1,0,0,0,0,1,1,0,0] 6 8 9 [(0,.lf (.str p_s)),(1,.i_ p_at),(7,.lf (.int .u64 v0)),(8,.i_ v1),(9,.lf (.int .u8 (b0.toNat:Int)))] [] 36 44 r0 (He b0 p_at p_s r0 v0 v1) fun r1=>
 .iB (r1) (.stop)<|
 .grd ((0:Int)≤(IntKind.wrap .i64 (7*v1))) fun h1=>
 .say [] (ok1 h1)<|
 .iB (decide (((b0.toNat:Int):Int)<128)) (.say [] (ok1 (by decide:(0:Int)≤1))<|
 .rt [4,5,6] 0 (.inr (gG .xor .i64 (IntKind.wrap .i64 (tZ .u64 (gG .or .u64 v0 (Au .u64 (IntKind.wrap .u64 (gG .and .u8 (b0.toNat:Int) 127)) (IntKind.wrap .i64 (7*v1)))) 1)) (IntKind.wrap .i64 (0-(IntKind.wrap .i64 (gG .and .u64 (gG .or .u64 v0 (Au .u64 (IntKind.wrap .u64 (gG .and .u8 (b0.toNat:Int) 127)) (IntKind.wrap .i64 (7*v1)))) 1)))),IntKind.wrap .i64 ((IntKind.wrap .i64 (p_at+v1))+1),0)))<|
 .stop
def XJ(p_s:ByteArray)(p_at:Int):Mo (Int×Int×Int):=
 .jk Tryz.f86 0 [1,0,0] 9 (fun r_=>⟨[(0,.lf (.str p_s)),(1,.i_ p_at),(17,.b_ r_)],[]⟩) ⟨[(0,.lf (.str p_s)),(1,.i_ p_at)],[]⟩ (MG p_at p_s) fun r0=>
 .iB (r0) (.stop)<|
 .l1 Tryz.f86 0 [1,1,1,1,0] 0 .ret (fun(v0,v1)=>⟨[(0,.lf (.str p_s)),(1,.i_ p_at),(7,.lf (.int .u64 v0)),(8,.i_ v1)],[]⟩) (fun r_=>⟨[(4,.i_ r_.1),(5,.i_ r_.2.1),(6,.i_ r_.2.2)],[]⟩) (Hf p_at p_s) (0,0) fun r1=>
 .ret (dK 3) (r1.1,r1.2.1,r1.2.2)
def Q49(p_s:ByteArray)(p_at:Int):Option (Int×Int×Int):=Mo.den (XJ p_s p_at)
theorem VD(p_s:ByteArray)(p_at:Int):FV (Q49 p_s p_at) 86 [.lf (.str p_s),.i_ p_at] (fun r=>.tup [.i_ r.1,.i_ r.2.1,.i_ r.2.2]):=dS Tryz.func86
def YN(p_b0:ah):Mo (Int×ah):=
 .iB (p_b0.bK) (.rt [0] 1 (0,p_b0))<|
 .ask (Q49 p_b0.dU p_b0.fat) fun r0 h0=>
 .say [.kJ (.q 0 (.q 1 (.q 2 (.q 3 (.q 4 (.q 5 (.q 6 (.q 7 (.l 8 (.q 9 (.q 10 (.q 11 (.q 12 (.q 13 (.q 14 (.q 15 .fin)))))))))))))))) (some 8) [] [.res (.tup [.i_ r0.1,.i_ r0.2.1,.i_ r0.2.2])] [0,3,4,5] 1 [(0,.ptr 0 0),(3,.i_ r0.1),(4,.i_ r0.2.1),(5,.i_ r0.2.2)] [aQ p_b0]] (okc (VD _ _ _ h0) (ok1 (rf_ ⟨[(0,.ptr 0 0),(3,.i_ r0.1),(4,.i_ r0.2.1),(5,.i_ r0.2.2)],[aQ p_b0]⟩)))<|
 .iB (r0.2.2 != 0) (.rt [0] 1 (0,ah.mk p_b0.dU p_b0.fat p_b0.dG true))<|
 .rt [0] 1 (r0.1,ah.mk p_b0.dU r0.2.1 p_b0.dG p_b0.bK)
def Q6(p_b0:ah):Option (Int×ah):=Mo.den (YN p_b0)
theorem fB(p_b0:ah):FH (Q6 p_b0) 38 [.ptr 0 0] [aQ p_b0] (fun r=>.i_ r.1) (fun r=>[aQ r.2]):=dA Tryz.func38
def MI(r0:Int×ah):Mo (Bool):=
 .say [.order [(true,0),(true,1),(true,2),(true,3),(true,4),(true,5),(true,6),(true,7),(true,8),(true,9),(true,10),(true,11),(true,12),(true,13),(true,14),(true,15),(true,16),(true,17),(true,18),(true,19),(true,20),(true,21)] none []] ok0<|
 .iG 6004 (r0.2.bK) (.rt [0,3,27] 1 (true))<|
 .iG 6008 (decide ((r0.1:Int)<0)) (.stop)<|
 .rt [0,3,27] 1 (decide ((IntKind.wrap .i64 ((r0.2.dU.size:Int)-r0.2.fat):Int)<r0.1))
def XK(p_b0:ah):Mo (ByteArray×ah):=
 .cH [0] (fB p_b0) fun r0 _=>
 .jk Tryz.f39 1 [1,1,0,0] 11 (fun r_=>⟨[(0,.ptr 0 0),(3,.i_ r0.1),(27,.b_ r_)],[aQ r0.2]⟩) ⟨[(0,.ptr 0 0),(3,.i_ r0.1)],[aQ r0.2]⟩ (MI r0) fun r1=>
 .iB (r1) (.rt [0] 1 (⟨#[]⟩,ah.mk r0.2.dU r0.2.fat r0.2.dG true))<|
 .say [.order [(true,0),(true,1),(true,2),(true,3),(true,4),(true,5),(true,6),(true,7),(true,8),(true,9),(true,10),(true,11),(true,12),(true,13),(true,14),(true,15)] none []] ok0<|
 .grd ((0:Int)≤(IntKind.wrap .i64 ((IntKind.wrap .i64 (r0.2.fat+r0.1))-r0.1))∧(IntKind.wrap .i64 ((IntKind.wrap .i64 (r0.2.fat+r0.1))-r0.1))≤(IntKind.wrap .i64 (r0.2.fat+r0.1))∧(IntKind.wrap .i64 (r0.2.fat+r0.1))≤(r0.2.dU.size:Int)) fun h0=>
 .say [] (ok1 h0)<|
 .rt [0] 1 (r0.2.dU.extract (IntKind.wrap .i64 ((IntKind.wrap .i64 (r0.2.fat+r0.1))-r0.1)).toNat (IntKind.wrap .i64 (r0.2.fat+r0.1)).toNat,ah.mk r0.2.dU (IntKind.wrap .i64 (r0.2.fat+r0.1)) r0.2.dG r0.2.bK)
def Q33(p_b0:ah):Option (ByteArray×ah):=Mo.den (XK p_b0)
theorem nN(p_b0:ah):FH (Q33 p_b0) 39 [.ptr 0 0] [aQ p_b0] (fun r=>.lf (.str r.1)) (fun r=>[aQ r.2]):=dA Tryz.func39
theorem YO:Je (opsOf (Code.sub (bodyC Tryz.f93) [1,0,0])) [(true,0),(true,1),(true,2),(true,3),(true,4),(true,5),(true,6),(true,7),(true,8),(true,9),(true,10),(true,11),(true,12),(true,13),(true,14),(true,15),(true,16),(true,17),(true,18),(true,19),(true,20),(true,21),(true,22),(true,23),(true,24),(true,25),(true,26),(true,27)] none=true:=by kernel_rfl
def MJ(p_b0:ah):Mo (Bool):=
 .say [.Ar [(true,0),(true,1),(true,2),(true,3),(true,4),(true,5),(true,6),(true,7),(true,8),(true,9),(true,10),(true,11),(true,12),(true,13),(true,14),(true,15),(true,16),(true,17),(true,18),(true,19),(true,20),(true,21),(true,22),(true,23),(true,24),(true,25),(true,26),(true,27)] none []] (ok1 YO)<|
 .iG 4004 (p_b0.bK) (.rt [0,30] 1 (true))<|
 .iG 4016 (decide (((p_b0.dU.size:Int):Int)≤p_b0.fat)) (.stop)<|
 .ask (pF p_b0.dU p_b0.fat) fun b0 h0=>
 .say [.byt b0] (ok1 (je h0))<|
 .rt [0,30] 1 (decide ((1:Int)<(b0.toNat:Int)))
def XL(p_b0:ah):Mo (Bool×ah):=
 .jk Tryz.f93 1 [1,0,0] 9 (fun r_=>⟨[(0,.ptr 0 0),(30,.b_ r_)],[aQ p_b0]⟩) ⟨[(0,.ptr 0 0)],[aQ p_b0]⟩ (MJ p_b0) fun r0=>
 .iB (r0) (.rt [0] 1 (false,ah.mk p_b0.dU p_b0.fat p_b0.dG true))<|
 .say [.order [(true,0),(true,1),(true,2),(true,3),(true,4),(true,5),(true,6),(true,7),(true,8),(true,9),(true,10),(true,11)] none []] ok0<|
 .ask (pF p_b0.dU (IntKind.wrap .i64 ((IntKind.wrap .i64 (p_b0.fat+1))-1))) fun b0 h0=>
 .say [.byt b0] (ok1 (je h0))<|
 .rt [0] 1 ((b0.toNat:Int)==1,ah.mk p_b0.dU (IntKind.wrap .i64 (p_b0.fat+1)) p_b0.dG p_b0.bK)
def Q30(p_b0:ah):Option (Bool×ah):=Mo.den (XL p_b0)
theorem kX(p_b0:ah):FH (Q30 p_b0) 93 [.ptr 0 0] [aQ p_b0] (fun r=>.b_ r.1) (fun r=>[aQ r.2]):=dA Tryz.func93
def XM(p_b0:ah):Mo (aj×ah):=
 .cH [0] (kX p_b0) fun r0 _=>
 .iB (!r0.1) (.ret ⟨[.kill 1],[0],[],1⟩ (aj.mk 0 0 ⟨#[]⟩ [] [],r0.2))<|
 .ask (UN r0.2.dU r0.2.fat) fun r1 h0=>
 .say [.kJ (.q 0 (.q 1 (.q 2 (.q 3 (.q 4 (.q 5 (.q 6 (.q 7 (.alt 8 (.q 9 (.q 10 (.q 11 (.q 12 (.l 13 (.l 14 (.q 15 (.q 16 .fin)))))))) (.l 13 (.l 8 (.q 9 (.q 10 (.q 11 (.q 12 (.l 14 (.q 15 (.q 16 .fin)))))))))))))))))) none [2] [.both [.at_ 8 8,.resv 1,.res (.tup [.dat (aj.lf1 r1.1),.i_ r1.2.1,.i_ r1.2.2]),.slot 2] [.at_ 8 13,.resv 1,.slot 2,.res (.tup [.dat (aj.lf1 r1.1),.i_ r1.2.1,.i_ r1.2.2])]] [0,2,3,4,5] 3 [(0,.ptr 0 0),(2,.ptr 1 0),(3,.ptr 2 0),(4,.i_ r1.2.1),(5,.i_ r1.2.2)] [aQ r0.2,.box 25 (.agg [.i_ 0,.i_ 0,.lf (.str ⟨#[]⟩),.aY 5,.aY 6]),.box 25 (.agg [.i_ r1.1.aB,.i_ r1.1.dY,.lf (.str r1.1.fText),.lf (.rows 5 (r1.1.dM.map aj.lf)),.lf (.rows 6 (r1.1.bF.map aA.lf))])]] (okc (Dx _ _ _ h0) (okc (rf_ ⟨[(0,.ptr 0 0),(2,.ptr 1 0),(3,.ptr 2 0),(4,.i_ r1.2.1),(5,.i_ r1.2.2)],[aQ r0.2,.box 25 (.agg [.i_ 0,.i_ 0,.lf (.str ⟨#[]⟩),.aY 5,.aY 6]),.box 25 (.agg [.i_ r1.1.aB,.i_ r1.1.dY,.lf (.str r1.1.fText),.lf (.rows 5 (r1.1.dM.map aj.lf)),.lf (.rows 6 (r1.1.bF.map aA.lf))])]⟩) (okc (Dx _ _ _ h0) (ok1 (rf_ ⟨[(0,.ptr 0 0),(2,.ptr 1 0),(3,.ptr 2 0),(4,.i_ r1.2.1),(5,.i_ r1.2.2)],[aQ r0.2,.box 25 (.agg [.i_ 0,.i_ 0,.lf (.str ⟨#[]⟩),.aY 5,.aY 6]),.box 25 (.agg [.i_ r1.1.aB,.i_ r1.1.dY,.lf (.str r1.1.fText),.lf (.rows 5 (r1.1.dM.map aj.lf)),.lf (.rows 6 (r1.1.bF.map aA.lf))])]⟩)))))<|
 .iB (r1.2.2 != 0) (.stop)<|
 .ret ⟨[.kill 1,.kill 2],[0],[],1⟩ (r1.1,ah.mk r0.2.dU r1.2.1 r0.2.dG r0.2.bK)
def Q63(p_b0:ah):Option (aj×ah):=Mo.den (XM p_b0)
theorem nO(p_b0:ah):FH (Q63 p_b0) 87 [.ptr 0 0] [aQ p_b0] (fun r=>.dat (aj.lf1 r.1)) (fun r=>[aQ r.2]):=dA Tryz.func87
def mG(r0:Int×ah):Mo (Bool):=
 .iG 6002 (decide ((r0.1:Int)<0)) (.stop)<|
 .rt [0,1,5,18] 1 (decide ((64:Int)≤r0.2.dG))
def mJ(r0:Int×ah)(r1:Bool):Mo (ah):=
 .iB (r1) (.stop)<|
 .rt [0,1,5] 1 (r0.2)
def MK(l0:List ByteArray)(r0:Int×ah)(s6621:ah)(v0:Int):Mo (Bool):=
 .iG 16003 (decide ((v0:Int)<r0.1)) (.stop)<|
 .rt [0,1,5,6,7,38] 2 (false)
def ML(r0:Int×ah):(Int×ah×(List ByteArray))→Mo ((Int×ah×(List ByteArray))⊕(ah×(List ByteArray))):=fun(v0,s6621,l0)=>
 .jk Tryz.f225 1 [1,1,1,1,1,0,1,0,0,0,0] 21 (fun r_=>⟨[(0,.ptr 0 0),(1,.raw (.func (.func 226) #[] #[])),(5,.i_ r0.1),(6,.own 1),(7,.i_ v0),(38,.b_ r_)],[aQ s6621,.row 9 1 (l0.map lfS)]⟩) ⟨[(0,.ptr 0 0),(1,.raw (.func (.func 226) #[] #[])),(5,.i_ r0.1),(6,.own 1),(7,.i_ v0)],[aQ s6621,.row 9 1 (l0.map lfS)]⟩ (MK l0 r0 s6621 v0) fun r1=>
 .iB (r1) (.stop)<|
 .rt [0,6] 2 (.inr (s6621,l0))
def YP(p_b0:ah):Mo ((List ByteArray)×ah):=
 .cH [0] (fB p_b0) fun r0 _=>
 .jk Tryz.f225 1 [1,1,0,0] 11 (fun r_=>⟨[(0,.ptr 0 0),(1,.raw (.func (.func 226) #[] #[])),(5,.i_ r0.1),(18,.b_ r_)],[aQ r0.2]⟩) ⟨[(0,.ptr 0 0),(1,.raw (.func (.func 226) #[] #[])),(5,.i_ r0.1)],[aQ r0.2]⟩ (mG r0) fun r1=>
 .jk Tryz.f225 1 [1,1,0,1] 1 (fun r_=>⟨[(0,.ptr 0 0),(1,.raw (.func (.func 226) #[] #[])),(5,.i_ r0.1)],[aQ r_]⟩) ⟨[(0,.ptr 0 0),(1,.raw (.func (.func 226) #[] #[])),(5,.i_ r0.1),(18,.b_ r1)],[aQ r0.2]⟩ (mJ r0 r1) fun r2=>
 .say [] (ok1 (by simp[lfS]:(([]:List ByteArray).map lfS)=[]))<|
 .l1y [.lg 6 9 1,.iR 1 (([]:List ByteArray).map lfS)] Tryz.f225 1 [1,1,1,1,1,0,1,0] 0 (.exit 0) (fun(v0,s6621,l0)=>⟨[(0,.ptr 0 0),(1,.raw (.func (.func 226) #[] #[])),(5,.i_ r0.1),(6,.own 1),(7,.i_ v0)],[aQ s6621,.row 9 1 (l0.map lfS)]⟩) (fun r_=>⟨[(0,.ptr 0 0),(6,.own 1)],[aQ r_.1,.row 9 1 (r_.2.map lfS)]⟩) (ML r0) (0,(ah.mk r2.dU r2.fat (IntKind.wrap .i64 (r2.dG+1)) r2.bK),([]:List ByteArray)) fun r3=>
 .ret ⟨[.mvn 1],[0],[(2,1)],2⟩ (r3.2,ah.mk r3.1.dU r3.1.fat (IntKind.wrap .i64 (r3.1.dG-1)) r3.1.bK)
def Q5(p_b0:ah):Option ((List ByteArray)×ah):=Mo.den (YP p_b0)
theorem D5(p_b0:ah):FH (Q5 p_b0) 225 [.ptr 0 0,.raw (.func (.func 226) #[] #[])] [aQ p_b0] (fun _=>.own 1) (fun r=>[aQ r.2,.row 9 1 (r.1.map lfS)]):=dA Tryz.func225
def Hg(l0:List bG)(r0:Int×ah)(s6712:ah)(v0:Int):Mo (Bool):=
 .iG 16003 (decide ((v0:Int)<r0.1)) (.stop)<|
 .rt [0,1,5,6,7,38] 2 (false)
def Ho(r0:Int×ah):(Int×ah×(List bG))→Mo ((Int×ah×(List bG))⊕(ah×(List bG))):=fun(v0,s6712,l0)=>
 .jk Tryz.f147 1 [1,1,1,1,1,0,1,0,0,0,0] 21 (fun r_=>⟨[(0,.ptr 0 0),(1,.raw (.func (.func 148) #[] #[])),(5,.i_ r0.1),(6,.own 1),(7,.i_ v0),(38,.b_ r_)],[aQ s6712,.row 149 2 (l0.map bG.lf)]⟩) ⟨[(0,.ptr 0 0),(1,.raw (.func (.func 148) #[] #[])),(5,.i_ r0.1),(6,.own 1),(7,.i_ v0)],[aQ s6712,.row 149 2 (l0.map bG.lf)]⟩ (Hg l0 r0 s6712 v0) fun r1=>
 .iB (r1) (.stop)<|
 .rt [0,6] 2 (.inr (s6712,l0))
def XO(p_b0:ah):Mo ((List bG)×ah):=
 .cH [0] (fB p_b0) fun r0 _=>
 .jk Tryz.f147 1 [1,1,0,0] 11 (fun r_=>⟨[(0,.ptr 0 0),(1,.raw (.func (.func 148) #[] #[])),(5,.i_ r0.1),(18,.b_ r_)],[aQ r0.2]⟩) ⟨[(0,.ptr 0 0),(1,.raw (.func (.func 148) #[] #[])),(5,.i_ r0.1)],[aQ r0.2]⟩ (mG r0) fun r1=>
 .jk Tryz.f147 1 [1,1,0,1] 1 (fun r_=>⟨[(0,.ptr 0 0),(1,.raw (.func (.func 148) #[] #[])),(5,.i_ r0.1)],[aQ r_]⟩) ⟨[(0,.ptr 0 0),(1,.raw (.func (.func 148) #[] #[])),(5,.i_ r0.1),(18,.b_ r1)],[aQ r0.2]⟩ (mJ r0 r1) fun r2=>
 .say [] (ok1 (by simp[bG.dw]:(([]:List bG).map bG.lf)=[]))<|
 .l1y [.lg 6 149 2,.iR 1 (([]:List bG).map bG.lf)] Tryz.f147 1 [1,1,1,1,1,0,1,0] 0 (.exit 0) (fun(v0,s6712,l0)=>⟨[(0,.ptr 0 0),(1,.raw (.func (.func 148) #[] #[])),(5,.i_ r0.1),(6,.own 1),(7,.i_ v0)],[aQ s6712,.row 149 2 (l0.map bG.lf)]⟩) (fun r_=>⟨[(0,.ptr 0 0),(6,.own 1)],[aQ r_.1,.row 149 2 (r_.2.map bG.lf)]⟩) (Ho r0) (0,(ah.mk r2.dU r2.fat (IntKind.wrap .i64 (r2.dG+1)) r2.bK),([]:List bG)) fun r3=>
 .ret ⟨[.mvn 1],[0],[(2,1)],2⟩ (r3.2,ah.mk r3.1.dU r3.1.fat (IntKind.wrap .i64 (r3.1.dG-1)) r3.1.bK)
def Q39(p_b0:ah):Option ((List bG)×ah):=Mo.den (XO p_b0)
theorem VE(p_b0:ah):FH (Q39 p_b0) 147 [.ptr 0 0,.raw (.func (.func 148) #[] #[])] [aQ p_b0] (fun _=>.own 1) (fun r=>[aQ r.2,.row 149 2 (r.1.map bG.lf)]):=dA Tryz.func147
def Hq(l0:List aj)(r0:Int×ah)(s6844:ah)(v0:Int):Mo (Bool):=
 .iG 16003 (decide ((v0:Int)<r0.1)) (.stop)<|
 .rt [0,1,5,6,7,38] 2 (false)
def Hr(r0:Int×ah):(Int×ah×(List aj))→Mo ((Int×ah×(List aj))⊕(ah×(List aj))):=fun(v0,s6844,l0)=>
 .jk Tryz.f224 1 [1,1,1,1,1,0,1,0,0,0,0] 21 (fun r_=>⟨[(0,.ptr 0 0),(1,.raw (.func (.func 87) #[] #[])),(5,.i_ r0.1),(6,.own 1),(7,.i_ v0),(38,.b_ r_)],[aQ s6844,.row 25 5 (l0.map aj.lf)]⟩) ⟨[(0,.ptr 0 0),(1,.raw (.func (.func 87) #[] #[])),(5,.i_ r0.1),(6,.own 1),(7,.i_ v0)],[aQ s6844,.row 25 5 (l0.map aj.lf)]⟩ (Hq l0 r0 s6844 v0) fun r1=>
 .iB (r1) (.stop)<|
 .rt [0,6] 2 (.inr (s6844,l0))
def XP(p_b0:ah):Mo ((List aj)×ah):=
 .cH [0] (fB p_b0) fun r0 _=>
 .jk Tryz.f224 1 [1,1,0,0] 11 (fun r_=>⟨[(0,.ptr 0 0),(1,.raw (.func (.func 87) #[] #[])),(5,.i_ r0.1),(18,.b_ r_)],[aQ r0.2]⟩) ⟨[(0,.ptr 0 0),(1,.raw (.func (.func 87) #[] #[])),(5,.i_ r0.1)],[aQ r0.2]⟩ (mG r0) fun r1=>
 .jk Tryz.f224 1 [1,1,0,1] 1 (fun r_=>⟨[(0,.ptr 0 0),(1,.raw (.func (.func 87) #[] #[])),(5,.i_ r0.1)],[aQ r_]⟩) ⟨[(0,.ptr 0 0),(1,.raw (.func (.func 87) #[] #[])),(5,.i_ r0.1),(18,.b_ r1)],[aQ r0.2]⟩ (mJ r0 r1) fun r2=>
 .say [] (ok1 (by simp[aj.dw]:(([]:List aj).map aj.lf)=[]))<|
 .l1y [.lg 6 25 5,.iR 1 (([]:List aj).map aj.lf)] Tryz.f224 1 [1,1,1,1,1,0,1,0] 0 (.exit 0) (fun(v0,s6844,l0)=>⟨[(0,.ptr 0 0),(1,.raw (.func (.func 87) #[] #[])),(5,.i_ r0.1),(6,.own 1),(7,.i_ v0)],[aQ s6844,.row 25 5 (l0.map aj.lf)]⟩) (fun r_=>⟨[(0,.ptr 0 0),(6,.own 1)],[aQ r_.1,.row 25 5 (r_.2.map aj.lf)]⟩) (Hr r0) (0,(ah.mk r2.dU r2.fat (IntKind.wrap .i64 (r2.dG+1)) r2.bK),([]:List aj)) fun r3=>
 .ret ⟨[.mvn 1],[0],[(2,1)],2⟩ (r3.2,ah.mk r3.1.dU r3.1.fat (IntKind.wrap .i64 (r3.1.dG-1)) r3.1.bK)
def Q34(p_b0:ah):Option ((List aj)×ah):=Mo.den (XP p_b0)
theorem MN(p_b0:ah):FH (Q34 p_b0) 224 [.ptr 0 0,.raw (.func (.func 87) #[] #[])] [aQ p_b0] (fun _=>.own 1) (fun r=>[aQ r.2,.row 25 5 (r.1.map aj.lf)]):=dA Tryz.func224
def Ht(l0:List bU)(r0:Int×ah)(s6970:ah)(v0:Int):Mo (Bool):=
 .iG 16003 (decide ((v0:Int)<r0.1)) (.stop)<|
 .rt [0,1,5,6,7,38] 2 (false)
def Hu(r0:Int×ah):(Int×ah×(List bU))→Mo ((Int×ah×(List bU))⊕(ah×(List bU))):=fun(v0,s6970,l0)=>
 .jk Tryz.f230 1 [1,1,1,1,1,0,1,0,0,0,0] 21 (fun r_=>⟨[(0,.ptr 0 0),(1,.raw (.func (.func 231) #[] #[])),(5,.i_ r0.1),(6,.own 1),(7,.i_ v0),(38,.b_ r_)],[aQ s6970,.row 229 2 (l0.map bU.lf)]⟩) ⟨[(0,.ptr 0 0),(1,.raw (.func (.func 231) #[] #[])),(5,.i_ r0.1),(6,.own 1),(7,.i_ v0)],[aQ s6970,.row 229 2 (l0.map bU.lf)]⟩ (Ht l0 r0 s6970 v0) fun r1=>
 .iB (r1) (.stop)<|
 .rt [0,6] 2 (.inr (s6970,l0))
def XQ(p_b0:ah):Mo ((List bU)×ah):=
 .cH [0] (fB p_b0) fun r0 _=>
 .jk Tryz.f230 1 [1,1,0,0] 11 (fun r_=>⟨[(0,.ptr 0 0),(1,.raw (.func (.func 231) #[] #[])),(5,.i_ r0.1),(18,.b_ r_)],[aQ r0.2]⟩) ⟨[(0,.ptr 0 0),(1,.raw (.func (.func 231) #[] #[])),(5,.i_ r0.1)],[aQ r0.2]⟩ (mG r0) fun r1=>
 .jk Tryz.f230 1 [1,1,0,1] 1 (fun r_=>⟨[(0,.ptr 0 0),(1,.raw (.func (.func 231) #[] #[])),(5,.i_ r0.1)],[aQ r_]⟩) ⟨[(0,.ptr 0 0),(1,.raw (.func (.func 231) #[] #[])),(5,.i_ r0.1),(18,.b_ r1)],[aQ r0.2]⟩ (mJ r0 r1) fun r2=>
 .say [] (ok1 (by simp[bU.dw]:(([]:List bU).map bU.lf)=[]))<|
 .l1y [.lg 6 229 2,.iR 1 (([]:List bU).map bU.lf)] Tryz.f230 1 [1,1,1,1,1,0,1,0] 0 (.exit 0) (fun(v0,s6970,l0)=>⟨[(0,.ptr 0 0),(1,.raw (.func (.func 231) #[] #[])),(5,.i_ r0.1),(6,.own 1),(7,.i_ v0)],[aQ s6970,.row 229 2 (l0.map bU.lf)]⟩) (fun r_=>⟨[(0,.ptr 0 0),(6,.own 1)],[aQ r_.1,.row 229 2 (r_.2.map bU.lf)]⟩) (Hu r0) (0,(ah.mk r2.dU r2.fat (IntKind.wrap .i64 (r2.dG+1)) r2.bK),([]:List bU)) fun r3=>
 .ret ⟨[.mvn 1],[0],[(2,1)],2⟩ (r3.2,ah.mk r3.1.dU r3.1.fat (IntKind.wrap .i64 (r3.1.dG-1)) r3.1.bK)
def Q40(p_b0:ah):Option ((List bU)×ah):=Mo.den (XQ p_b0)
theorem VF(p_b0:ah):FH (Q40 p_b0) 230 [.ptr 0 0,.raw (.func (.func 231) #[] #[])] [aQ p_b0] (fun _=>.own 1) (fun r=>[aQ r.2,.row 229 2 (r.1.map bU.lf)]):=dA Tryz.func230
abbrev xw(m:ah→Option (aJ×ah)):Prop:=∀p_b0,FH (m p_b0) 232 [.ptr 0 0] [aQ p_b0] (fun r=>.dat (aJ.lf1 r.1)) (fun r=>[aQ r.2])
abbrev D6(m:ah→Option ((List aJ)×ah)):Prop:=∀p_b0,FH (m p_b0) 289 [.ptr 0 0,.raw (.func (.func 232) #[] #[])] [aQ p_b0] (fun r=>.lf (.rows 11 (r.1.map aJ.lf))) (fun r=>[aQ r.2])
structure xA where
 m1:(p_b0:ah)→Option (aJ×ah)
 ok1:xw m1
 m2:(p_b0:ah)→Option ((List aJ)×ah)
 ok2:D6 m2
def SH(R_:xA)(p_b0:ah):Mo (aJ×ah):=
 .cH [0] (fB p_b0) fun r0 _=>
 .cH [0] (D5 r0.2) fun r1 _=>
 .cH [0] (nN r1.2) fun r2 _=>
 .cH [0] (D5 r2.2) fun r3 _=>
 .cH [0] (nO r3.2) fun r4 _=>
 .cH [0] (fB r4.2) fun r5 _=>
 .cH [0] (R_.ok2 r5.2) fun r6 _=>
 .ret ⟨[.frz 2,.frz 3,.tod 0,.kill 1],[0],[],1⟩ (aJ.mk r0.1 r1.1 r2.1 r3.1 r4.1 r5.1 r6.1,r6.2)
theorem Qz(R_:xA):xw fun p_b0=>Mo.den (SH R_ p_b0):=fun _=>dA Tryz.func232
def MO(R_:xA)(r0:Int×ah):Mo (Bool):=
 .iG 6002 (decide ((r0.1:Int)<0)) (.stop)<|
 .rt [0,1,5,18] 1 (decide ((64:Int)≤r0.2.dG))
def MP(R_:xA)(r0:Int×ah)(r1:Bool):Mo (ah):=
 .iB (r1) (.stop)<|
 .rt [0,1,5] 1 (r0.2)
def Hw(R_:xA)(l0:List aJ)(r0:Int×ah)(s7110:ah)(v0:Int):Mo (Bool):=
 .iG 16003 (decide ((v0:Int)<r0.1)) (.stop)<|
 .rt [0,1,5,6,7,38] 2 (false)
def Hy(R_:xA)(r0:Int×ah):(Int×ah×(List aJ))→Mo ((Int×ah×(List aJ))⊕(ah×(List aJ))):=fun(v0,s7110,l0)=>
 .jk Tryz.f289 1 [1,1,1,1,1,0,1,0,0,0,0] 21 (fun r_=>⟨[(0,.ptr 0 0),(1,.raw (.func (.func 232) #[] #[])),(5,.i_ r0.1),(6,.own 1),(7,.i_ v0),(38,.b_ r_)],[aQ s7110,.row 40 11 (l0.map aJ.lf)]⟩) ⟨[(0,.ptr 0 0),(1,.raw (.func (.func 232) #[] #[])),(5,.i_ r0.1),(6,.own 1),(7,.i_ v0)],[aQ s7110,.row 40 11 (l0.map aJ.lf)]⟩ (Hw R_ l0 r0 s7110 v0) fun r1=>
 .iB (r1) (.stop)<|
 .rt [0,6] 2 (.inr (s7110,l0))
def SI(R_:xA)(p_b0:ah):Mo ((List aJ)×ah):=
 .cH [0] (fB p_b0) fun r0 _=>
 .jk Tryz.f289 1 [1,1,0,0] 11 (fun r_=>⟨[(0,.ptr 0 0),(1,.raw (.func (.func 232) #[] #[])),(5,.i_ r0.1),(18,.b_ r_)],[aQ r0.2]⟩) ⟨[(0,.ptr 0 0),(1,.raw (.func (.func 232) #[] #[])),(5,.i_ r0.1)],[aQ r0.2]⟩ (MO R_ r0) fun r1=>
 .jk Tryz.f289 1 [1,1,0,1] 1 (fun r_=>⟨[(0,.ptr 0 0),(1,.raw (.func (.func 232) #[] #[])),(5,.i_ r0.1)],[aQ r_]⟩) ⟨[(0,.ptr 0 0),(1,.raw (.func (.func 232) #[] #[])),(5,.i_ r0.1),(18,.b_ r1)],[aQ r0.2]⟩ (MP R_ r0 r1) fun r2=>
 .say [] (ok1 (by simp[aJ.dw]:(([]:List aJ).map aJ.lf)=[]))<|
 .l1y [.lg 6 40 11,.iR 1 (([]:List aJ).map aJ.lf)] Tryz.f289 1 [1,1,1,1,1,0,1,0] 0 (.exit 0) (fun(v0,s7110,l0)=>⟨[(0,.ptr 0 0),(1,.raw (.func (.func 232) #[] #[])),(5,.i_ r0.1),(6,.own 1),(7,.i_ v0)],[aQ s7110,.row 40 11 (l0.map aJ.lf)]⟩) (fun r_=>⟨[(0,.ptr 0 0),(6,.own 1)],[aQ r_.1,.row 40 11 (r_.2.map aJ.lf)]⟩) (Hy R_ r0) (0,(ah.mk r2.dU r2.fat (IntKind.wrap .i64 (r2.dG+1)) r2.bK),([]:List aJ)) fun r3=>
 .ret ⟨[.frz 1],[0],[],1⟩ (r3.2,ah.mk r3.1.dU r3.1.fat (IntKind.wrap .i64 (r3.1.dG-1)) r3.1.bK)
theorem QA(R_:xA):D6 fun p_b0=>Mo.den (SI R_ p_b0):=fun _=>dA Tryz.func289
def qc:Nat→xA
 |0=>{ m1:=fun p_b0=>none,ok1:=fun _ _ h=>(by cases h),m2:=fun p_b0=>none,ok2:=fun _ _ h=>(by cases h) }
 |n_+1=>{ m1:=fun p_b0=>Mo.den (SH (qc n_) p_b0),ok1:=Qz (qc n_),m2:=fun p_b0=>Mo.den (SI (qc n_) p_b0),ok2:=QA (qc n_) }
def Q94(p_b0:ah):Option (aJ×ah):=(qc FU).m1 p_b0
theorem VG:xw Q94:=(qc FU).ok1
abbrev xB(m:ah→Option (aH×ah)):Prop:=∀p_b0,FH (m p_b0) 149 [.ptr 0 0] [aQ p_b0] (fun r=>.dat (aH.lf1 r.1)) (fun r=>[aQ r.2])
abbrev D7(m:ah→Option ((List aH)×ah)):Prop:=∀p_b0,FH (m p_b0) 233 [.ptr 0 0,.raw (.func (.func 149) #[] #[])] [aQ p_b0] (fun r=>.lf (.rows 25 (r.1.map aH.lf))) (fun r=>[aQ r.2])
structure xC where
 m1:(p_b0:ah)→Option (aH×ah)
 ok1:xB m1
 m2:(p_b0:ah)→Option ((List aH)×ah)
 ok2:D7 m2
def SK(R_:xC)(p_b0:ah):Mo (aH×ah):=
 .cH [0] (fB p_b0) fun r0 _=>
 .cH [0] (D5 r0.2) fun r1 _=>
 .cH [0] (nO r1.2) fun r2 _=>
 .cH [0] (MN r2.2) fun r3 _=>
 .cH [0] (fB r3.2) fun r4 _=>
 .cH [0] (fB r4.2) fun r5 _=>
 .cH [0] (fB r5.2) fun r6 _=>
 .cH [0] (VF r6.2) fun r7 _=>
 .cH [0] (fB r7.2) fun r8 _=>
 .cH [0] (VG r8.2) fun r9 _=>
 .cH [0] (R_.ok2 r9.2) fun r10 _=>
 .ret ⟨[.frz 2,.frz 3,.frz 4,.tod 0,.kill 1],[0],[],1⟩ (aH.mk r0.1 r1.1 r2.1 r3.1 r4.1 r5.1 (fF.mk r6.1 r7.1 r8.1) r9.1 r10.1,r10.2)
theorem QB(R_:xC):xB fun p_b0=>Mo.den (SK R_ p_b0):=fun _=>dA Tryz.func149
def MQ(R_:xC)(r0:Int×ah):Mo (Bool):=
 .iG 6002 (decide ((r0.1:Int)<0)) (.stop)<|
 .rt [0,1,5,18] 1 (decide ((64:Int)≤r0.2.dG))
def MR(R_:xC)(r0:Int×ah)(r1:Bool):Mo (ah):=
 .iB (r1) (.stop)<|
 .rt [0,1,5] 1 (r0.2)
def Hz(R_:xC)(l0:List aH)(r0:Int×ah)(s7222:ah)(v0:Int):Mo (Bool):=
 .iG 16003 (decide ((v0:Int)<r0.1)) (.stop)<|
 .rt [0,1,5,6,7,38] 2 (false)
def H6(R_:xC)(r0:Int×ah):(Int×ah×(List aH))→Mo ((Int×ah×(List aH))⊕(ah×(List aH))):=fun(v0,s7222,l0)=>
 .jk Tryz.f233 1 [1,1,1,1,1,0,1,0,0,0,0] 21 (fun r_=>⟨[(0,.ptr 0 0),(1,.raw (.func (.func 149) #[] #[])),(5,.i_ r0.1),(6,.own 1),(7,.i_ v0),(38,.b_ r_)],[aQ s7222,.row 43 25 (l0.map aH.lf)]⟩) ⟨[(0,.ptr 0 0),(1,.raw (.func (.func 149) #[] #[])),(5,.i_ r0.1),(6,.own 1),(7,.i_ v0)],[aQ s7222,.row 43 25 (l0.map aH.lf)]⟩ (Hz R_ l0 r0 s7222 v0) fun r1=>
 .iB (r1) (.stop)<|
 .rt [0,6] 2 (.inr (s7222,l0))
def SL(R_:xC)(p_b0:ah):Mo ((List aH)×ah):=
 .cH [0] (fB p_b0) fun r0 _=>
 .jk Tryz.f233 1 [1,1,0,0] 11 (fun r_=>⟨[(0,.ptr 0 0),(1,.raw (.func (.func 149) #[] #[])),(5,.i_ r0.1),(18,.b_ r_)],[aQ r0.2]⟩) ⟨[(0,.ptr 0 0),(1,.raw (.func (.func 149) #[] #[])),(5,.i_ r0.1)],[aQ r0.2]⟩ (MQ R_ r0) fun r1=>
 .jk Tryz.f233 1 [1,1,0,1] 1 (fun r_=>⟨[(0,.ptr 0 0),(1,.raw (.func (.func 149) #[] #[])),(5,.i_ r0.1)],[aQ r_]⟩) ⟨[(0,.ptr 0 0),(1,.raw (.func (.func 149) #[] #[])),(5,.i_ r0.1),(18,.b_ r1)],[aQ r0.2]⟩ (MR R_ r0 r1) fun r2=>
 .say [] (ok1 (by simp[aH.dw]:(([]:List aH).map aH.lf)=[]))<|
 .l1y [.lg 6 43 25,.iR 1 (([]:List aH).map aH.lf)] Tryz.f233 1 [1,1,1,1,1,0,1,0] 0 (.exit 0) (fun(v0,s7222,l0)=>⟨[(0,.ptr 0 0),(1,.raw (.func (.func 149) #[] #[])),(5,.i_ r0.1),(6,.own 1),(7,.i_ v0)],[aQ s7222,.row 43 25 (l0.map aH.lf)]⟩) (fun r_=>⟨[(0,.ptr 0 0),(6,.own 1)],[aQ r_.1,.row 43 25 (r_.2.map aH.lf)]⟩) (H6 R_ r0) (0,(ah.mk r2.dU r2.fat (IntKind.wrap .i64 (r2.dG+1)) r2.bK),([]:List aH)) fun r3=>
 .ret ⟨[.frz 1],[0],[],1⟩ (r3.2,ah.mk r3.1.dU r3.1.fat (IntKind.wrap .i64 (r3.1.dG-1)) r3.1.bK)
theorem QC(R_:xC):D7 fun p_b0=>Mo.den (SL R_ p_b0):=fun _=>dA Tryz.func233
def qg:Nat→xC
 |0=>{ m1:=fun p_b0=>none,ok1:=fun _ _ h=>(by cases h),m2:=fun p_b0=>none,ok2:=fun _ _ h=>(by cases h) }
 |n_+1=>{ m1:=fun p_b0=>Mo.den (SK (qg n_) p_b0),ok1:=QB (qg n_),m2:=fun p_b0=>Mo.den (SL (qg n_) p_b0),ok2:=QC (qg n_) }
def Q95(p_b0:ah):Option (aH×ah):=(qg FU).m1 p_b0
theorem VH:xB Q95:=(qg FU).ok1
def VI(p_b0:ah):Mo (aK×ah):=
 .cH [0] (nN p_b0) fun r0 _=>
 .cH [0] (fB r0.2) fun r1 _=>
 .cH [0] (VE r1.2) fun r2 _=>
 .cH [0] (kX r2.2) fun r3 _=>
 .cH [0] (kX r3.2) fun r4 _=>
 .cH [0] (kX r4.2) fun r5 _=>
 .cH [0] (VH r5.2) fun r6 _=>
 .ret ⟨[.kill 1,.mvn 2],[0],[(3,1)],2⟩ (aK.mk r0.1 r1.1 r2.1 r3.1 r4.1 r5.1 r6.1,r6.2)
def YQ(p_b0:ah):Option (aK×ah):=Mo.den (VI p_b0)
theorem QD(p_b0:ah):FH (YQ p_b0) 89 [.ptr 0 0] [aQ p_b0] (fun r=>gu (.agg ((aK.lf1 r.1).map AV.lf)) [(2,.own 1)]) (fun r=>[aQ r.2,.row 149 2 (r.1.iT.map bG.lf)]):=dA Tryz.func89
def H7(l0:List aK)(r0:Int×ah)(s7309:ah)(v0:Int):Mo (Bool):=
 .iG 16003 (decide ((v0:Int)<r0.1)) (.stop)<|
 .rt [0,1,5,6,7,38] 2 (false)
def H8(r0:Int×ah):(Int×ah×(List aK))→Mo ((Int×ah×(List aK))⊕(ah×(List aK))):=fun(v0,s7309,l0)=>
 .jk Tryz.f145 1 [1,1,1,1,1,0,1,0,0,0,0] 21 (fun r_=>⟨[(0,.ptr 0 0),(1,.raw (.func (.func 89) #[] #[])),(5,.i_ r0.1),(6,.own 1),(7,.i_ v0),(38,.b_ r_)],[aQ s7309,.row 45 31 (l0.map aK.lf)]⟩) ⟨[(0,.ptr 0 0),(1,.raw (.func (.func 89) #[] #[])),(5,.i_ r0.1),(6,.own 1),(7,.i_ v0)],[aQ s7309,.row 45 31 (l0.map aK.lf)]⟩ (H7 l0 r0 s7309 v0) fun r1=>
 .iB (r1) (.stop)<|
 .rt [0,6] 2 (.inr (s7309,l0))
def XR(p_b0:ah):Mo ((List aK)×ah):=
 .cH [0] (fB p_b0) fun r0 _=>
 .jk Tryz.f145 1 [1,1,0,0] 11 (fun r_=>⟨[(0,.ptr 0 0),(1,.raw (.func (.func 89) #[] #[])),(5,.i_ r0.1),(18,.b_ r_)],[aQ r0.2]⟩) ⟨[(0,.ptr 0 0),(1,.raw (.func (.func 89) #[] #[])),(5,.i_ r0.1)],[aQ r0.2]⟩ (mG r0) fun r1=>
 .jk Tryz.f145 1 [1,1,0,1] 1 (fun r_=>⟨[(0,.ptr 0 0),(1,.raw (.func (.func 89) #[] #[])),(5,.i_ r0.1)],[aQ r_]⟩) ⟨[(0,.ptr 0 0),(1,.raw (.func (.func 89) #[] #[])),(5,.i_ r0.1),(18,.b_ r1)],[aQ r0.2]⟩ (mJ r0 r1) fun r2=>
 .say [] (ok1 (by simp[aK.dw]:(([]:List aK).map aK.lf)=[]))<|
 .l1y [.lg 6 45 31,.iR 1 (([]:List aK).map aK.lf)] Tryz.f145 1 [1,1,1,1,1,0,1,0] 0 (.exit 0) (fun(v0,s7309,l0)=>⟨[(0,.ptr 0 0),(1,.raw (.func (.func 89) #[] #[])),(5,.i_ r0.1),(6,.own 1),(7,.i_ v0)],[aQ s7309,.row 45 31 (l0.map aK.lf)]⟩) (fun r_=>⟨[(0,.ptr 0 0),(6,.own 1)],[aQ r_.1,.row 45 31 (r_.2.map aK.lf)]⟩) (H8 r0) (0,(ah.mk r2.dU r2.fat (IntKind.wrap .i64 (r2.dG+1)) r2.bK),([]:List aK)) fun r3=>
 .ret ⟨[.mvn 1],[0],[(2,1)],2⟩ (r3.2,ah.mk r3.1.dU r3.1.fat (IntKind.wrap .i64 (r3.1.dG-1)) r3.1.bK)
def Q41(p_b0:ah):Option ((List aK)×ah):=Mo.den (XR p_b0)
theorem VJ(p_b0:ah):FH (Q41 p_b0) 145 [.ptr 0 0,.raw (.func (.func 89) #[] #[])] [aQ p_b0] (fun _=>.own 1) (fun r=>[aQ r.2,.row 45 31 (r.1.map aK.lf)]):=dA Tryz.func145
abbrev xE(m:ah→Option (ay×ah)):Prop:=∀p_b0,FH (m p_b0) 146 [.ptr 0 0] [aQ p_b0] (fun r=>.dat (ay.lf1 r.1)) (fun r=>[aQ r.2])
abbrev D8(m:ah→Option ((List bn)×ah)):Prop:=∀p_b0,FH (m p_b0) 227 [.ptr 0 0,.raw (.func (.func 228) #[] #[])] [aQ p_b0] (fun r=>.lf (.rows 22 (r.1.map bn.lf))) (fun r=>[aQ r.2])
abbrev D9(m:ah→Option ((List ay)×ah)):Prop:=∀p_b0,FH (m p_b0) 229 [.ptr 0 0,.raw (.func (.func 146) #[] #[])] [aQ p_b0] (fun r=>.lf (.rows 21 (r.1.map ay.lf))) (fun r=>[aQ r.2])
abbrev Ea(m:ah→Option (bn×ah)):Prop:=∀p_b0,FH (m p_b0) 228 [.ptr 0 0] [aQ p_b0] (fun r=>.dat (bn.lf1 r.1)) (fun r=>[aQ r.2])
structure nP where
 m1:(p_b0:ah)→Option (ay×ah)
 ok1:xE m1
 m2:(p_b0:ah)→Option ((List bn)×ah)
 ok2:D8 m2
 m3:(p_b0:ah)→Option ((List ay)×ah)
 ok3:D9 m3
 m4:(p_b0:ah)→Option (bn×ah)
 ok4:Ea m4
def SN(R_:nP)(p_b0:ah):Mo (ay×ah):=
 .cH [0] (fB p_b0) fun r0 _=>
 .cH [0] (kX r0.2) fun r1 _=>
 .cH [0] (nO r1.2) fun r2 _=>
 .cH [0] (kX r2.2) fun r3 _=>
 .cH [0] (nO r3.2) fun r4 _=>
 .cH [0] (MN r4.2) fun r5 _=>
 .cH [0] (fB r5.2) fun r6 _=>
 .cH [0] (fB r6.2) fun r7 _=>
 .cH [0] (D5 r7.2) fun r8 _=>
 .cH [0] (R_.ok2 r8.2) fun r9 _=>
 .cH [0] (kX r9.2) fun r10 _=>
 .cH [0] (R_.ok3 r10.2) fun r11 _=>
 .cH [0] (kX r11.2) fun r12 _=>
 .ret ⟨[.frz 2,.frz 3,.tod 0,.kill 1],[0],[],1⟩ (ay.mk r0.1 r1.1 r2.1 r3.1 r4.1 r5.1 r6.1 r7.1 r8.1 r9.1 r10.1 r11.1 r12.1,r12.2)
theorem QE(R_:nP):xE fun p_b0=>Mo.den (SN R_ p_b0):=fun _=>dA Tryz.func146
def Ag(R_:nP)(r0:Int×ah):Mo (Bool):=
 .iG 6002 (decide ((r0.1:Int)<0)) (.stop)<|
 .rt [0,1,5,18] 1 (decide ((64:Int)≤r0.2.dG))
def Ah(R_:nP)(r0:Int×ah)(r1:Bool):Mo (ah):=
 .iB (r1) (.stop)<|
 .rt [0,1,5] 1 (r0.2)
def H9(R_:nP)(l0:List bn)(r0:Int×ah)(s7469:ah)(v0:Int):Mo (Bool):=
 .iG 16003 (decide ((v0:Int)<r0.1)) (.stop)<|
 .rt [0,1,5,6,7,38] 2 (false)
def Ia(R_:nP)(r0:Int×ah):(Int×ah×(List bn))→Mo ((Int×ah×(List bn))⊕(ah×(List bn))):=fun(v0,s7469,l0)=>
 .jk Tryz.f227 1 [1,1,1,1,1,0,1,0,0,0,0] 21 (fun r_=>⟨[(0,.ptr 0 0),(1,.raw (.func (.func 228) #[] #[])),(5,.i_ r0.1),(6,.own 1),(7,.i_ v0),(38,.b_ r_)],[aQ s7469,.row 224 22 (l0.map bn.lf)]⟩) ⟨[(0,.ptr 0 0),(1,.raw (.func (.func 228) #[] #[])),(5,.i_ r0.1),(6,.own 1),(7,.i_ v0)],[aQ s7469,.row 224 22 (l0.map bn.lf)]⟩ (H9 R_ l0 r0 s7469 v0) fun r1=>
 .iB (r1) (.stop)<|
 .rt [0,6] 2 (.inr (s7469,l0))
def SQ(R_:nP)(p_b0:ah):Mo ((List bn)×ah):=
 .cH [0] (fB p_b0) fun r0 _=>
 .jk Tryz.f227 1 [1,1,0,0] 11 (fun r_=>⟨[(0,.ptr 0 0),(1,.raw (.func (.func 228) #[] #[])),(5,.i_ r0.1),(18,.b_ r_)],[aQ r0.2]⟩) ⟨[(0,.ptr 0 0),(1,.raw (.func (.func 228) #[] #[])),(5,.i_ r0.1)],[aQ r0.2]⟩ (Ag R_ r0) fun r1=>
 .jk Tryz.f227 1 [1,1,0,1] 1 (fun r_=>⟨[(0,.ptr 0 0),(1,.raw (.func (.func 228) #[] #[])),(5,.i_ r0.1)],[aQ r_]⟩) ⟨[(0,.ptr 0 0),(1,.raw (.func (.func 228) #[] #[])),(5,.i_ r0.1),(18,.b_ r1)],[aQ r0.2]⟩ (Ah R_ r0 r1) fun r2=>
 .say [] (ok1 (by simp[bn.dw]:(([]:List bn).map bn.lf)=[]))<|
 .l1y [.lg 6 224 22,.iR 1 (([]:List bn).map bn.lf)] Tryz.f227 1 [1,1,1,1,1,0,1,0] 0 (.exit 0) (fun(v0,s7469,l0)=>⟨[(0,.ptr 0 0),(1,.raw (.func (.func 228) #[] #[])),(5,.i_ r0.1),(6,.own 1),(7,.i_ v0)],[aQ s7469,.row 224 22 (l0.map bn.lf)]⟩) (fun r_=>⟨[(0,.ptr 0 0),(6,.own 1)],[aQ r_.1,.row 224 22 (r_.2.map bn.lf)]⟩) (Ia R_ r0) (0,(ah.mk r2.dU r2.fat (IntKind.wrap .i64 (r2.dG+1)) r2.bK),([]:List bn)) fun r3=>
 .ret ⟨[.frz 1],[0],[],1⟩ (r3.2,ah.mk r3.1.dU r3.1.fat (IntKind.wrap .i64 (r3.1.dG-1)) r3.1.bK)
theorem QF(R_:nP):D8 fun p_b0=>Mo.den (SQ R_ p_b0):=fun _=>dA Tryz.func227
def Ib(R_:nP)(l0:List ay)(r0:Int×ah)(s7573:ah)(v0:Int):Mo (Bool):=
 .iG 16003 (decide ((v0:Int)<r0.1)) (.stop)<|
 .rt [0,1,5,6,7,38] 2 (false)
def Ic(R_:nP)(r0:Int×ah):(Int×ah×(List ay))→Mo ((Int×ah×(List ay))⊕(ah×(List ay))):=fun(v0,s7573,l0)=>
 .jk Tryz.f229 1 [1,1,1,1,1,0,1,0,0,0,0] 21 (fun r_=>⟨[(0,.ptr 0 0),(1,.raw (.func (.func 146) #[] #[])),(5,.i_ r0.1),(6,.own 1),(7,.i_ v0),(38,.b_ r_)],[aQ s7573,.row 31 21 (l0.map ay.lf)]⟩) ⟨[(0,.ptr 0 0),(1,.raw (.func (.func 146) #[] #[])),(5,.i_ r0.1),(6,.own 1),(7,.i_ v0)],[aQ s7573,.row 31 21 (l0.map ay.lf)]⟩ (Ib R_ l0 r0 s7573 v0) fun r1=>
 .iB (r1) (.stop)<|
 .rt [0,6] 2 (.inr (s7573,l0))
def SS(R_:nP)(p_b0:ah):Mo ((List ay)×ah):=
 .cH [0] (fB p_b0) fun r0 _=>
 .jk Tryz.f229 1 [1,1,0,0] 11 (fun r_=>⟨[(0,.ptr 0 0),(1,.raw (.func (.func 146) #[] #[])),(5,.i_ r0.1),(18,.b_ r_)],[aQ r0.2]⟩) ⟨[(0,.ptr 0 0),(1,.raw (.func (.func 146) #[] #[])),(5,.i_ r0.1)],[aQ r0.2]⟩ (Ag R_ r0) fun r1=>
 .jk Tryz.f229 1 [1,1,0,1] 1 (fun r_=>⟨[(0,.ptr 0 0),(1,.raw (.func (.func 146) #[] #[])),(5,.i_ r0.1)],[aQ r_]⟩) ⟨[(0,.ptr 0 0),(1,.raw (.func (.func 146) #[] #[])),(5,.i_ r0.1),(18,.b_ r1)],[aQ r0.2]⟩ (Ah R_ r0 r1) fun r2=>
 .say [] (ok1 (by simp[ay.dw]:(([]:List ay).map ay.lf)=[]))<|
 .l1y [.lg 6 31 21,.iR 1 (([]:List ay).map ay.lf)] Tryz.f229 1 [1,1,1,1,1,0,1,0] 0 (.exit 0) (fun(v0,s7573,l0)=>⟨[(0,.ptr 0 0),(1,.raw (.func (.func 146) #[] #[])),(5,.i_ r0.1),(6,.own 1),(7,.i_ v0)],[aQ s7573,.row 31 21 (l0.map ay.lf)]⟩) (fun r_=>⟨[(0,.ptr 0 0),(6,.own 1)],[aQ r_.1,.row 31 21 (r_.2.map ay.lf)]⟩) (Ic R_ r0) (0,(ah.mk r2.dU r2.fat (IntKind.wrap .i64 (r2.dG+1)) r2.bK),([]:List ay)) fun r3=>
 .ret ⟨[.frz 1],[0],[],1⟩ (r3.2,ah.mk r3.1.dU r3.1.fat (IntKind.wrap .i64 (r3.1.dG-1)) r3.1.bK)
theorem QG(R_:nP):D9 fun p_b0=>Mo.den (SS R_ p_b0):=fun _=>dA Tryz.func229
def MS(R_:nP)(p_b0:ah):Mo (bn×ah):=
 .cH [0] (nN p_b0) fun r0 _=>
 .cH [0] (R_.ok1 r0.2) fun r1 _=>
 .ret ⟨[.kill 1],[0],[],1⟩ (bn.mk r0.1 r1.1,r1.2)
theorem MV(R_:nP):Ea fun p_b0=>Mo.den (MS R_ p_b0):=fun _=>dA Tryz.func228
def jZ:Nat→nP
 |0=>{ m1:=fun p_b0=>none,ok1:=fun _ _ h=>(by cases h),m2:=fun p_b0=>none,ok2:=fun _ _ h=>(by cases h),m3:=fun p_b0=>none,ok3:=fun _ _ h=>(by cases h),m4:=fun p_b0=>none,ok4:=fun _ _ h=>(by cases h) }
 |n_+1=>{ m1:=fun p_b0=>Mo.den (SN (jZ n_) p_b0),ok1:=QE (jZ n_),m2:=fun p_b0=>Mo.den (SQ (jZ n_) p_b0),ok2:=QF (jZ n_),m3:=fun p_b0=>Mo.den (SS (jZ n_) p_b0),ok3:=QG (jZ n_),m4:=fun p_b0=>Mo.den (MS (jZ n_) p_b0),ok4:=MV (jZ n_) }
def Q85(p_b0:ah):Option (ay×ah):=(jZ FU).m1 p_b0
theorem VK:xE Q85:=(jZ FU).ok1
def VL(p_b0:ah):Mo (cu×ah):=
 .cH [0] (nN p_b0) fun r0 _=>
 .cH [0] (VJ r0.2) fun r1 _=>
 .cH [0] (VK r1.2) fun r2 _=>
 .cH [0] (fB r2.2) fun r3 _=>
 .cH [0] (fB r3.2) fun r4 _=>
 .ret ⟨[.kill 1,.mvn 2],[0],[(3,1)],2⟩ (cu.mk r0.1 r1.1 r2.1 r3.1 r4.1,r4.2)
def YR(p_b0:ah):Option (cu×ah):=Mo.den (VL p_b0)
theorem QH(p_b0:ah):FH (YR p_b0) 88 [.ptr 0 0] [aQ p_b0] (fun r=>gu (.agg ((cu.lf1 r.1).map AV.lf)) [(1,.own 1)]) (fun r=>[aQ r.2,.row 45 31 (r.1.eU.map aK.lf)]):=dA Tryz.func88
def Ie(l0:List Int)(r0:Int×ah)(s7719:ah)(v0:Int):Mo (Bool):=
 .iG 16003 (decide ((v0:Int)<r0.1)) (.stop)<|
 .rt [0,1,5,6,7,38] 2 (false)
def Ig(r0:Int×ah):(Int×ah×(List Int))→Mo ((Int×ah×(List Int))⊕(ah×(List Int))):=fun(v0,s7719,l0)=>
 .jk Tryz.f91 1 [1,1,1,1,1,0,1,0,0,0,0] 21 (fun r_=>⟨[(0,.ptr 0 0),(1,.raw (.func (.func 92) #[] #[])),(5,.i_ r0.1),(6,.own 1),(7,.i_ v0),(38,.b_ r_)],[aQ s7719,.row 3 1 (l0.map lfI)]⟩) ⟨[(0,.ptr 0 0),(1,.raw (.func (.func 92) #[] #[])),(5,.i_ r0.1),(6,.own 1),(7,.i_ v0)],[aQ s7719,.row 3 1 (l0.map lfI)]⟩ (Ie l0 r0 s7719 v0) fun r1=>
 .iB (r1) (.stop)<|
 .rt [0,6] 2 (.inr (s7719,l0))
def XT(p_b0:ah):Mo ((List Int)×ah):=
 .cH [0] (fB p_b0) fun r0 _=>
 .jk Tryz.f91 1 [1,1,0,0] 11 (fun r_=>⟨[(0,.ptr 0 0),(1,.raw (.func (.func 92) #[] #[])),(5,.i_ r0.1),(18,.b_ r_)],[aQ r0.2]⟩) ⟨[(0,.ptr 0 0),(1,.raw (.func (.func 92) #[] #[])),(5,.i_ r0.1)],[aQ r0.2]⟩ (mG r0) fun r1=>
 .jk Tryz.f91 1 [1,1,0,1] 1 (fun r_=>⟨[(0,.ptr 0 0),(1,.raw (.func (.func 92) #[] #[])),(5,.i_ r0.1)],[aQ r_]⟩) ⟨[(0,.ptr 0 0),(1,.raw (.func (.func 92) #[] #[])),(5,.i_ r0.1),(18,.b_ r1)],[aQ r0.2]⟩ (mJ r0 r1) fun r2=>
 .say [] (ok1 (by simp[lfI,lfK]:(([]:List Int).map lfI)=[]))<|
 .l1y [.lg 6 3 1,.iR 1 (([]:List Int).map lfI)] Tryz.f91 1 [1,1,1,1,1,0,1,0] 0 (.exit 0) (fun(v0,s7719,l0)=>⟨[(0,.ptr 0 0),(1,.raw (.func (.func 92) #[] #[])),(5,.i_ r0.1),(6,.own 1),(7,.i_ v0)],[aQ s7719,.row 3 1 (l0.map lfI)]⟩) (fun r_=>⟨[(0,.ptr 0 0),(6,.own 1)],[aQ r_.1,.row 3 1 (r_.2.map lfI)]⟩) (Ig r0) (0,(ah.mk r2.dU r2.fat (IntKind.wrap .i64 (r2.dG+1)) r2.bK),([]:List Int)) fun r3=>
 .ret ⟨[.mvn 1],[0],[(2,1)],2⟩ (r3.2,ah.mk r3.1.dU r3.1.fat (IntKind.wrap .i64 (r3.1.dG-1)) r3.1.bK)
def Q62(p_b0:ah):Option ((List Int)×ah):=Mo.den (XT p_b0)
theorem VN(p_b0:ah):FH (Q62 p_b0) 91 [.ptr 0 0,.raw (.func (.func 92) #[] #[])] [aQ p_b0] (fun _=>.own 1) (fun r=>[aQ r.2,.row 3 1 (r.1.map lfI)]):=dA Tryz.func91
abbrev xG(m:ah→Option (au×ah)):Prop:=∀p_b0,FH (m p_b0) 40 [.ptr 0 0] [aQ p_b0] (fun r=>.dat (au.lf1 r.1)) (fun r=>[aQ r.2])
abbrev Eb(m:ah→Option ((List au)×ah)):Prop:=∀p_b0,FH (m p_b0) 90 [.ptr 0 0,.raw (.func (.func 40) #[] #[])] [aQ p_b0] (fun r=>.lf (.rows 78 (r.1.map au.lf))) (fun r=>[aQ r.2])
structure xH where
 m1:(p_b0:ah)→Option (au×ah)
 ok1:xG m1
 m2:(p_b0:ah)→Option ((List au)×ah)
 ok2:Eb m2
def SV(R_:xH)(p_b0:ah):Mo (au×ah):=
 .cH [0] (fB p_b0) fun r0 _=>
 .cH [0] (nN r0.2) fun r1 _=>
 .cH [0] (nO r1.2) fun r2 _=>
 .cH [0] (nO r2.2) fun r3 _=>
 .cH [0] (nO r3.2) fun r4 _=>
 .cH [0] (QH r4.2) fun r5 _=>
 .cH [0] (QD r5.2) fun r6 _=>
 .cH [0] (nN r6.2) fun r7 _=>
 .cH [0] (fB r7.2) fun r8 _=>
 .cH [0] (R_.ok2 r8.2) fun r9 _=>
 .cH [0] (VN r9.2) fun r10 _=>
 .cH [0] (kX r10.2) fun r11 _=>
 .ret ⟨[.frz 2,.frz 3,.frz 4,.tod 0,.kill 1],[0],[],1⟩ (au.mk r0.1 r1.1 r2.1 r3.1 r4.1 r5.1 r6.1 r7.1 r8.1 r9.1 r10.1 r11.1,r11.2)
theorem QI(R_:xH):xG fun p_b0=>Mo.den (SV R_ p_b0):=fun _=>dA Tryz.func40
def MW(R_:xH)(r0:Int×ah):Mo (Bool):=
 .iG 6002 (decide ((r0.1:Int)<0)) (.stop)<|
 .rt [0,1,5,18] 1 (decide ((64:Int)≤r0.2.dG))
def MX(R_:xH)(r0:Int×ah)(r1:Bool):Mo (ah):=
 .iB (r1) (.stop)<|
 .rt [0,1,5] 1 (r0.2)
def Ih(R_:xH)(l0:List au)(r0:Int×ah)(s7831:ah)(v0:Int):Mo (Bool):=
 .iG 16003 (decide ((v0:Int)<r0.1)) (.stop)<|
 .rt [0,1,5,6,7,38] 2 (false)
def Ii(R_:xH)(r0:Int×ah):(Int×ah×(List au))→Mo ((Int×ah×(List au))⊕(ah×(List au))):=fun(v0,s7831,l0)=>
 .jk Tryz.f90 1 [1,1,1,1,1,0,1,0,0,0,0] 21 (fun r_=>⟨[(0,.ptr 0 0),(1,.raw (.func (.func 40) #[] #[])),(5,.i_ r0.1),(6,.own 1),(7,.i_ v0),(38,.b_ r_)],[aQ s7831,.row 49 78 (l0.map au.lf)]⟩) ⟨[(0,.ptr 0 0),(1,.raw (.func (.func 40) #[] #[])),(5,.i_ r0.1),(6,.own 1),(7,.i_ v0)],[aQ s7831,.row 49 78 (l0.map au.lf)]⟩ (Ih R_ l0 r0 s7831 v0) fun r1=>
 .iB (r1) (.stop)<|
 .rt [0,6] 2 (.inr (s7831,l0))
def SX(R_:xH)(p_b0:ah):Mo ((List au)×ah):=
 .cH [0] (fB p_b0) fun r0 _=>
 .jk Tryz.f90 1 [1,1,0,0] 11 (fun r_=>⟨[(0,.ptr 0 0),(1,.raw (.func (.func 40) #[] #[])),(5,.i_ r0.1),(18,.b_ r_)],[aQ r0.2]⟩) ⟨[(0,.ptr 0 0),(1,.raw (.func (.func 40) #[] #[])),(5,.i_ r0.1)],[aQ r0.2]⟩ (MW R_ r0) fun r1=>
 .jk Tryz.f90 1 [1,1,0,1] 1 (fun r_=>⟨[(0,.ptr 0 0),(1,.raw (.func (.func 40) #[] #[])),(5,.i_ r0.1)],[aQ r_]⟩) ⟨[(0,.ptr 0 0),(1,.raw (.func (.func 40) #[] #[])),(5,.i_ r0.1),(18,.b_ r1)],[aQ r0.2]⟩ (MX R_ r0 r1) fun r2=>
 .say [] (ok1 (by simp[au.dw]:(([]:List au).map au.lf)=[]))<|
 .l1y [.lg 6 49 78,.iR 1 (([]:List au).map au.lf)] Tryz.f90 1 [1,1,1,1,1,0,1,0] 0 (.exit 0) (fun(v0,s7831,l0)=>⟨[(0,.ptr 0 0),(1,.raw (.func (.func 40) #[] #[])),(5,.i_ r0.1),(6,.own 1),(7,.i_ v0)],[aQ s7831,.row 49 78 (l0.map au.lf)]⟩) (fun r_=>⟨[(0,.ptr 0 0),(6,.own 1)],[aQ r_.1,.row 49 78 (r_.2.map au.lf)]⟩) (Ii R_ r0) (0,(ah.mk r2.dU r2.fat (IntKind.wrap .i64 (r2.dG+1)) r2.bK),([]:List au)) fun r3=>
 .ret ⟨[.frz 1],[0],[],1⟩ (r3.2,ah.mk r3.1.dU r3.1.fat (IntKind.wrap .i64 (r3.1.dG-1)) r3.1.bK)
theorem QJ(R_:xH):Eb fun p_b0=>Mo.den (SX R_ p_b0):=fun _=>dA Tryz.func90
def qh:Nat→xH
 |0=>{ m1:=fun p_b0=>none,ok1:=fun _ _ h=>(by cases h),m2:=fun p_b0=>none,ok2:=fun _ _ h=>(by cases h) }
 |n_+1=>{ m1:=fun p_b0=>Mo.den (SV (qh n_) p_b0),ok1:=QI (qh n_),m2:=fun p_b0=>Mo.den (SX (qh n_) p_b0),ok2:=QJ (qh n_) }
def Q90(p_b0:ah):Option (au×ah):=(qh FU).m1 p_b0
theorem VO:xG Q90:=(qh FU).ok1
def MZ(p_s:ByteArray)(r0:Int×ah)(r1:Int×ah)(r2:ByteArray×ah)(r3:Int×ah)(r4:au×ah):Mo (Bool):=
 .iG 10004 (r4.2.bK) (.ret ⟨[.kill 1],[0,2,5,35],[],3⟩ (true))<|
 .ret ⟨[.kill 1],[0,2,5,35],[],3⟩ (r4.2.fat != (p_s.size:Int))
def Na(p_s:ByteArray)(r0:Int×ah)(r1:Int×ah)(r2:ByteArray×ah)(r3:Int×ah)(r4:au×ah)(r5:ByteArray×Int):Mo (Bool):=
 .iG 16002 (r5.2 != 0) (.stop)<|
 .rt [2,5,48] 3 (!decide ((r5.1:ByteArray)=(p_s:ByteArray)))
def XU(p_s:ByteArray):Mo (aZ×Int):=
 .say [.at_ 6 1,.norm 1] ok0<|
 .cH [1] (fB (ah.mk p_s 0 0 false)) fun r0 _=>
 .cH [1] (fB r0.2) fun r1 _=>
 .cH [1] (nN r1.2) fun r2 _=>
 .cH [1] (fB r2.2) fun r3 _=>
 .cH [1] (VO r3.2) fun r4 _=>
 .jk Tryz.f16 0 [1,1,1,1,0,0] 15 (fun r_=>⟨[(0,.lf (.str p_s)),(2,.ptr 0 0),(5,.ptr 2 0),(35,.b_ r_)],[.box 51 (Z51),.dead,.box 51 (.agg (.i_ r0.1::.i_ r1.1::.lf (.str r2.1)::.i_ r3.1::.i_ r4.1.aB::.lf (.str r4.1.fG)::.i_ r4.1.gq.aB::.i_ r4.1.gq.dY::.lf (.str r4.1.gq.fText)::.lf (.rows 5 (r4.1.gq.dM.map aj.lf))::.lf (.rows 6 (r4.1.gq.bF.map aA.lf))::.i_ r4.1.bF.aB::.i_ r4.1.bF.dY::.lf (.str r4.1.bF.fText)::.lf (.rows 5 (r4.1.bF.dM.map aj.lf))::.lf (.rows 6 (r4.1.bF.bF.map aA.lf))::.i_ r4.1.cO.aB::.i_ r4.1.cO.dY::.lf (.str r4.1.cO.fText)::.lf (.rows 5 (r4.1.cO.dM.map aj.lf))::.lf (.rows 6 (r4.1.cO.bF.map aA.lf))::.lf (.str r4.1.bJ.fName)::.lf (.rows 31 (r4.1.bJ.eU.map aK.lf))::.i_ r4.1.bJ.aI.jo::.b_ r4.1.bJ.aI.iF::.i_ r4.1.bJ.aI.iW.aB::.i_ r4.1.bJ.aI.iW.dY::.lf (.str r4.1.bJ.aI.iW.fText)::.lf (.rows 5 (r4.1.bJ.aI.iW.dM.map aj.lf))::.lf (.rows 6 (r4.1.bJ.aI.iW.bF.map aA.lf))::.b_ r4.1.bJ.aI.iH::.i_ r4.1.bJ.aI.iY.aB::.i_ r4.1.bJ.aI.iY.dY::.lf (.str r4.1.bJ.aI.iY.fText)::.lf (.rows 5 (r4.1.bJ.aI.iY.dM.map aj.lf))::.lf (.rows 6 (r4.1.bJ.aI.iY.bF.map aA.lf))::.lf (.rows 5 (r4.1.bJ.aI.kF.map aj.lf))::.i_ r4.1.bJ.aI.iI::.i_ r4.1.bJ.aI.iJ::.lf (.rows 1 (r4.1.bJ.aI.eP.map lfS))::.lf (.rows 22 (r4.1.bJ.aI.gY.map bn.lf))::.b_ r4.1.bJ.aI.iK::.lf (.rows 21 (r4.1.bJ.aI.gZ.map ay.lf))::.b_ r4.1.bJ.aI.dP::.i_ r4.1.bJ.kR::.i_ r4.1.bJ.jE::.lf (.str r4.1.aG.fName)::.i_ r4.1.aG.aB::.lf (.rows 2 (r4.1.aG.iT.map bG.lf))::.b_ r4.1.aG.dP::.b_ r4.1.aG.iy::.b_ r4.1.aG.fO::.i_ r4.1.aG.aP.fOp::.lf (.rows 1 (r4.1.aG.aP.dW.map lfS))::.i_ r4.1.aG.aP.fArg.aB::.i_ r4.1.aG.aP.fArg.dY::.lf (.str r4.1.aG.aP.fArg.fText)::.lf (.rows 5 (r4.1.aG.aP.fArg.dM.map aj.lf))::.lf (.rows 6 (r4.1.aG.aP.fArg.bF.map aA.lf))::.lf (.rows 5 (r4.1.aG.aP.fArgs.map aj.lf))::.i_ r4.1.aG.aP.fN::.i_ r4.1.aG.aP.fM::.i_ r4.1.aG.aP.dJ.aB::.lf (.rows 2 (r4.1.aG.aP.dJ.fC.map bU.lf))::.i_ r4.1.aG.aP.dJ.fR::.i_ r4.1.aG.aP.fExpr.fOp::.lf (.rows 1 (r4.1.aG.aP.fExpr.dW.map lfS))::.lf (.str r4.1.aG.aP.fExpr.fName)::.lf (.rows 1 (r4.1.aG.aP.fExpr.gy.map lfS))::.i_ r4.1.aG.aP.fExpr.fArg.aB::.i_ r4.1.aG.aP.fExpr.fArg.dY::.lf (.str r4.1.aG.aP.fExpr.fArg.fText)::.lf (.rows 5 (r4.1.aG.aP.fExpr.fArg.dM.map aj.lf))::.lf (.rows 6 (r4.1.aG.aP.fExpr.fArg.bF.map aA.lf))::.i_ r4.1.aG.aP.fExpr.fN::.lf (.rows 11 (r4.1.aG.aP.fExpr.dO.map aJ.lf))::.lf (.rows 25 (r4.1.aG.aP.dO.map aH.lf))::.lf (.str r4.1.lI)::.i_ r4.1.dZ::.lf (.rows 78 (r4.1.dD.map au.lf))::.lf (.rows 1 (r4.1.dN.map lfI))::.b_ r4.1.fH::[]))]⟩) ⟨[(0,.lf (.str p_s)),(2,.ptr 0 0),(4,.ptr 1 0),(5,.ptr 2 0)],[.box 51 (Z51),aQ r4.2,.box 51 (.agg (.i_ r0.1::.i_ r1.1::.lf (.str r2.1)::.i_ r3.1::.i_ r4.1.aB::.lf (.str r4.1.fG)::.i_ r4.1.gq.aB::.i_ r4.1.gq.dY::.lf (.str r4.1.gq.fText)::.lf (.rows 5 (r4.1.gq.dM.map aj.lf))::.lf (.rows 6 (r4.1.gq.bF.map aA.lf))::.i_ r4.1.bF.aB::.i_ r4.1.bF.dY::.lf (.str r4.1.bF.fText)::.lf (.rows 5 (r4.1.bF.dM.map aj.lf))::.lf (.rows 6 (r4.1.bF.bF.map aA.lf))::.i_ r4.1.cO.aB::.i_ r4.1.cO.dY::.lf (.str r4.1.cO.fText)::.lf (.rows 5 (r4.1.cO.dM.map aj.lf))::.lf (.rows 6 (r4.1.cO.bF.map aA.lf))::.lf (.str r4.1.bJ.fName)::.lf (.rows 31 (r4.1.bJ.eU.map aK.lf))::.i_ r4.1.bJ.aI.jo::.b_ r4.1.bJ.aI.iF::.i_ r4.1.bJ.aI.iW.aB::.i_ r4.1.bJ.aI.iW.dY::.lf (.str r4.1.bJ.aI.iW.fText)::.lf (.rows 5 (r4.1.bJ.aI.iW.dM.map aj.lf))::.lf (.rows 6 (r4.1.bJ.aI.iW.bF.map aA.lf))::.b_ r4.1.bJ.aI.iH::.i_ r4.1.bJ.aI.iY.aB::.i_ r4.1.bJ.aI.iY.dY::.lf (.str r4.1.bJ.aI.iY.fText)::.lf (.rows 5 (r4.1.bJ.aI.iY.dM.map aj.lf))::.lf (.rows 6 (r4.1.bJ.aI.iY.bF.map aA.lf))::.lf (.rows 5 (r4.1.bJ.aI.kF.map aj.lf))::.i_ r4.1.bJ.aI.iI::.i_ r4.1.bJ.aI.iJ::.lf (.rows 1 (r4.1.bJ.aI.eP.map lfS))::.lf (.rows 22 (r4.1.bJ.aI.gY.map bn.lf))::.b_ r4.1.bJ.aI.iK::.lf (.rows 21 (r4.1.bJ.aI.gZ.map ay.lf))::.b_ r4.1.bJ.aI.dP::.i_ r4.1.bJ.kR::.i_ r4.1.bJ.jE::.lf (.str r4.1.aG.fName)::.i_ r4.1.aG.aB::.lf (.rows 2 (r4.1.aG.iT.map bG.lf))::.b_ r4.1.aG.dP::.b_ r4.1.aG.iy::.b_ r4.1.aG.fO::.i_ r4.1.aG.aP.fOp::.lf (.rows 1 (r4.1.aG.aP.dW.map lfS))::.i_ r4.1.aG.aP.fArg.aB::.i_ r4.1.aG.aP.fArg.dY::.lf (.str r4.1.aG.aP.fArg.fText)::.lf (.rows 5 (r4.1.aG.aP.fArg.dM.map aj.lf))::.lf (.rows 6 (r4.1.aG.aP.fArg.bF.map aA.lf))::.lf (.rows 5 (r4.1.aG.aP.fArgs.map aj.lf))::.i_ r4.1.aG.aP.fN::.i_ r4.1.aG.aP.fM::.i_ r4.1.aG.aP.dJ.aB::.lf (.rows 2 (r4.1.aG.aP.dJ.fC.map bU.lf))::.i_ r4.1.aG.aP.dJ.fR::.i_ r4.1.aG.aP.fExpr.fOp::.lf (.rows 1 (r4.1.aG.aP.fExpr.dW.map lfS))::.lf (.str r4.1.aG.aP.fExpr.fName)::.lf (.rows 1 (r4.1.aG.aP.fExpr.gy.map lfS))::.i_ r4.1.aG.aP.fExpr.fArg.aB::.i_ r4.1.aG.aP.fExpr.fArg.dY::.lf (.str r4.1.aG.aP.fExpr.fArg.fText)::.lf (.rows 5 (r4.1.aG.aP.fExpr.fArg.dM.map aj.lf))::.lf (.rows 6 (r4.1.aG.aP.fExpr.fArg.bF.map aA.lf))::.i_ r4.1.aG.aP.fExpr.fN::.lf (.rows 11 (r4.1.aG.aP.fExpr.dO.map aJ.lf))::.lf (.rows 25 (r4.1.aG.aP.dO.map aH.lf))::.lf (.str r4.1.lI)::.i_ r4.1.dZ::.lf (.rows 78 (r4.1.dD.map au.lf))::.lf (.rows 1 (r4.1.dN.map lfI))::.b_ r4.1.fH::[]))]⟩ (MZ p_s r0 r1 r2 r3 r4) fun r5=>
 .iB (r5) (.ret (dK 2) (aZ.mk 0 0 ⟨#[]⟩ 0 au.z,4))<|
 .cl (xu (aZ.mk r0.1 r1.1 r2.1 r3.1 r4.1)) fun r6 _=>
 .jk Tryz.f16 0 [1,1,1,1,1,1,0,0] 21 (fun r_=>⟨[(2,.ptr 0 0),(5,.ptr 2 0),(48,.b_ r_)],[.box 51 (Z51),.dead,.box 51 (.agg (.i_ r0.1::.i_ r1.1::.lf (.str r2.1)::.i_ r3.1::.i_ r4.1.aB::.lf (.str r4.1.fG)::.i_ r4.1.gq.aB::.i_ r4.1.gq.dY::.lf (.str r4.1.gq.fText)::.lf (.rows 5 (r4.1.gq.dM.map aj.lf))::.lf (.rows 6 (r4.1.gq.bF.map aA.lf))::.i_ r4.1.bF.aB::.i_ r4.1.bF.dY::.lf (.str r4.1.bF.fText)::.lf (.rows 5 (r4.1.bF.dM.map aj.lf))::.lf (.rows 6 (r4.1.bF.bF.map aA.lf))::.i_ r4.1.cO.aB::.i_ r4.1.cO.dY::.lf (.str r4.1.cO.fText)::.lf (.rows 5 (r4.1.cO.dM.map aj.lf))::.lf (.rows 6 (r4.1.cO.bF.map aA.lf))::.lf (.str r4.1.bJ.fName)::.lf (.rows 31 (r4.1.bJ.eU.map aK.lf))::.i_ r4.1.bJ.aI.jo::.b_ r4.1.bJ.aI.iF::.i_ r4.1.bJ.aI.iW.aB::.i_ r4.1.bJ.aI.iW.dY::.lf (.str r4.1.bJ.aI.iW.fText)::.lf (.rows 5 (r4.1.bJ.aI.iW.dM.map aj.lf))::.lf (.rows 6 (r4.1.bJ.aI.iW.bF.map aA.lf))::.b_ r4.1.bJ.aI.iH::.i_ r4.1.bJ.aI.iY.aB::.i_ r4.1.bJ.aI.iY.dY::.lf (.str r4.1.bJ.aI.iY.fText)::.lf (.rows 5 (r4.1.bJ.aI.iY.dM.map aj.lf))::.lf (.rows 6 (r4.1.bJ.aI.iY.bF.map aA.lf))::.lf (.rows 5 (r4.1.bJ.aI.kF.map aj.lf))::.i_ r4.1.bJ.aI.iI::.i_ r4.1.bJ.aI.iJ::.lf (.rows 1 (r4.1.bJ.aI.eP.map lfS))::.lf (.rows 22 (r4.1.bJ.aI.gY.map bn.lf))::.b_ r4.1.bJ.aI.iK::.lf (.rows 21 (r4.1.bJ.aI.gZ.map ay.lf))::.b_ r4.1.bJ.aI.dP::.i_ r4.1.bJ.kR::.i_ r4.1.bJ.jE::.lf (.str r4.1.aG.fName)::.i_ r4.1.aG.aB::.lf (.rows 2 (r4.1.aG.iT.map bG.lf))::.b_ r4.1.aG.dP::.b_ r4.1.aG.iy::.b_ r4.1.aG.fO::.i_ r4.1.aG.aP.fOp::.lf (.rows 1 (r4.1.aG.aP.dW.map lfS))::.i_ r4.1.aG.aP.fArg.aB::.i_ r4.1.aG.aP.fArg.dY::.lf (.str r4.1.aG.aP.fArg.fText)::.lf (.rows 5 (r4.1.aG.aP.fArg.dM.map aj.lf))::.lf (.rows 6 (r4.1.aG.aP.fArg.bF.map aA.lf))::.lf (.rows 5 (r4.1.aG.aP.fArgs.map aj.lf))::.i_ r4.1.aG.aP.fN::.i_ r4.1.aG.aP.fM::.i_ r4.1.aG.aP.dJ.aB::.lf (.rows 2 (r4.1.aG.aP.dJ.fC.map bU.lf))::.i_ r4.1.aG.aP.dJ.fR::.i_ r4.1.aG.aP.fExpr.fOp::.lf (.rows 1 (r4.1.aG.aP.fExpr.dW.map lfS))::.lf (.str r4.1.aG.aP.fExpr.fName)::.lf (.rows 1 (r4.1.aG.aP.fExpr.gy.map lfS))::.i_ r4.1.aG.aP.fExpr.fArg.aB::.i_ r4.1.aG.aP.fExpr.fArg.dY::.lf (.str r4.1.aG.aP.fExpr.fArg.fText)::.lf (.rows 5 (r4.1.aG.aP.fExpr.fArg.dM.map aj.lf))::.lf (.rows 6 (r4.1.aG.aP.fExpr.fArg.bF.map aA.lf))::.i_ r4.1.aG.aP.fExpr.fN::.lf (.rows 11 (r4.1.aG.aP.fExpr.dO.map aJ.lf))::.lf (.rows 25 (r4.1.aG.aP.dO.map aH.lf))::.lf (.str r4.1.lI)::.i_ r4.1.dZ::.lf (.rows 78 (r4.1.dD.map au.lf))::.lf (.rows 1 (r4.1.dN.map lfI))::.b_ r4.1.fH::[]))]⟩) ⟨[(0,.lf (.str p_s)),(2,.ptr 0 0),(5,.ptr 2 0),(6,.lf (.str r6.1)),(7,.i_ r6.2)],[.box 51 (Z51),.dead,.box 51 (.agg (.i_ r0.1::.i_ r1.1::.lf (.str r2.1)::.i_ r3.1::.i_ r4.1.aB::.lf (.str r4.1.fG)::.i_ r4.1.gq.aB::.i_ r4.1.gq.dY::.lf (.str r4.1.gq.fText)::.lf (.rows 5 (r4.1.gq.dM.map aj.lf))::.lf (.rows 6 (r4.1.gq.bF.map aA.lf))::.i_ r4.1.bF.aB::.i_ r4.1.bF.dY::.lf (.str r4.1.bF.fText)::.lf (.rows 5 (r4.1.bF.dM.map aj.lf))::.lf (.rows 6 (r4.1.bF.bF.map aA.lf))::.i_ r4.1.cO.aB::.i_ r4.1.cO.dY::.lf (.str r4.1.cO.fText)::.lf (.rows 5 (r4.1.cO.dM.map aj.lf))::.lf (.rows 6 (r4.1.cO.bF.map aA.lf))::.lf (.str r4.1.bJ.fName)::.lf (.rows 31 (r4.1.bJ.eU.map aK.lf))::.i_ r4.1.bJ.aI.jo::.b_ r4.1.bJ.aI.iF::.i_ r4.1.bJ.aI.iW.aB::.i_ r4.1.bJ.aI.iW.dY::.lf (.str r4.1.bJ.aI.iW.fText)::.lf (.rows 5 (r4.1.bJ.aI.iW.dM.map aj.lf))::.lf (.rows 6 (r4.1.bJ.aI.iW.bF.map aA.lf))::.b_ r4.1.bJ.aI.iH::.i_ r4.1.bJ.aI.iY.aB::.i_ r4.1.bJ.aI.iY.dY::.lf (.str r4.1.bJ.aI.iY.fText)::.lf (.rows 5 (r4.1.bJ.aI.iY.dM.map aj.lf))::.lf (.rows 6 (r4.1.bJ.aI.iY.bF.map aA.lf))::.lf (.rows 5 (r4.1.bJ.aI.kF.map aj.lf))::.i_ r4.1.bJ.aI.iI::.i_ r4.1.bJ.aI.iJ::.lf (.rows 1 (r4.1.bJ.aI.eP.map lfS))::.lf (.rows 22 (r4.1.bJ.aI.gY.map bn.lf))::.b_ r4.1.bJ.aI.iK::.lf (.rows 21 (r4.1.bJ.aI.gZ.map ay.lf))::.b_ r4.1.bJ.aI.dP::.i_ r4.1.bJ.kR::.i_ r4.1.bJ.jE::.lf (.str r4.1.aG.fName)::.i_ r4.1.aG.aB::.lf (.rows 2 (r4.1.aG.iT.map bG.lf))::.b_ r4.1.aG.dP::.b_ r4.1.aG.iy::.b_ r4.1.aG.fO::.i_ r4.1.aG.aP.fOp::.lf (.rows 1 (r4.1.aG.aP.dW.map lfS))::.i_ r4.1.aG.aP.fArg.aB::.i_ r4.1.aG.aP.fArg.dY::.lf (.str r4.1.aG.aP.fArg.fText)::.lf (.rows 5 (r4.1.aG.aP.fArg.dM.map aj.lf))::.lf (.rows 6 (r4.1.aG.aP.fArg.bF.map aA.lf))::.lf (.rows 5 (r4.1.aG.aP.fArgs.map aj.lf))::.i_ r4.1.aG.aP.fN::.i_ r4.1.aG.aP.fM::.i_ r4.1.aG.aP.dJ.aB::.lf (.rows 2 (r4.1.aG.aP.dJ.fC.map bU.lf))::.i_ r4.1.aG.aP.dJ.fR::.i_ r4.1.aG.aP.fExpr.fOp::.lf (.rows 1 (r4.1.aG.aP.fExpr.dW.map lfS))::.lf (.str r4.1.aG.aP.fExpr.fName)::.lf (.rows 1 (r4.1.aG.aP.fExpr.gy.map lfS))::.i_ r4.1.aG.aP.fExpr.fArg.aB::.i_ r4.1.aG.aP.fExpr.fArg.dY::.lf (.str r4.1.aG.aP.fExpr.fArg.fText)::.lf (.rows 5 (r4.1.aG.aP.fExpr.fArg.dM.map aj.lf))::.lf (.rows 6 (r4.1.aG.aP.fExpr.fArg.bF.map aA.lf))::.i_ r4.1.aG.aP.fExpr.fN::.lf (.rows 11 (r4.1.aG.aP.fExpr.dO.map aJ.lf))::.lf (.rows 25 (r4.1.aG.aP.dO.map aH.lf))::.lf (.str r4.1.lI)::.i_ r4.1.dZ::.lf (.rows 78 (r4.1.dD.map au.lf))::.lf (.rows 1 (r4.1.dN.map lfI))::.b_ r4.1.fH::[]))]⟩ (Na p_s r0 r1 r2 r3 r4 r6) fun r7=>
 .iB (r7) (.stop)<|
 .ret (dK 2) (aZ.mk r0.1 r1.1 r2.1 r3.1 r4.1,0)
def Q83(p_s:ByteArray):Option (aZ×Int):=Mo.den (XU p_s)
theorem Nb(p_s:ByteArray):FV (Q83 p_s) 16 [.lf (.str p_s)] (fun r=>.tup [.dat (aZ.lf1 r.1),.i_ r.2]):=dS Tryz.func16
def Nc(p_n:Int):Mo (Int):=
 .iB (decide ((p_n:Int)<0)) (.stop)<|
 .rt [3] 0 (Au .u64 (IntKind.wrap .u64 p_n) 1)
def Nh(v0:Int)(v1:ByteArray)(v2:Int):Mo (Bool):=
 .iG 14002 (decide ((v2:Int)<10)) (.rt [3,4,5,18] 0 (decide ((128:Int)≤v0)))<|
 .stop
def Ij :(Int×ByteArray×Int)→Mo ((Int×ByteArray×Int)⊕(Int×ByteArray)):=fun(v0,v1,v2)=>
 .jk Tryz.f139 0 [1,1,1,1,0,1,0,0,0,0] 19 (fun r_=>⟨[(3,.lf (.int .u64 v0)),(4,.lf (.str v1)),(5,.i_ v2),(18,.b_ r_)],[]⟩) ⟨[(3,.lf (.int .u64 v0)),(4,.lf (.str v1)),(5,.i_ v2)],[]⟩ (Nh v0 v1 v2) fun r0=>
 .iB (r0) (.stop)<|
 .rt [3,4] 0 (.inr (v0,v1))
def XV(p_n:Int):Mo (ByteArray):=
 .say [] (ok1 (by decide:(0:Int)≤1))<|
 .jk Tryz.f139 0 [1,1,0,1] 1 (fun r_=>⟨[(3,.lf (.int .u64 r_))],[]⟩) ⟨[(3,.lf (.int .u64 (Au .u64 (IntKind.wrap .u64 p_n) 1))),(10,.lf (.bool (decide ((p_n:Int)<0))))],[]⟩ (Nc p_n) fun r0=>
 .l1 Tryz.f139 0 [1,1,1,1,0,1,0] 0 (.exit 0) (fun(v0,v1,v2)=>⟨[(3,.lf (.int .u64 v0)),(4,.lf (.str v1)),(5,.i_ v2)],[]⟩) (fun r_=>⟨[(3,.lf (.int .u64 r_.1)),(4,.lf (.str r_.2))],[]⟩) (Ij ) (r0,⟨#[]⟩,0) fun r1=>
 .say [.nums [IntKind.wrap .u8 r1.1]] (ok1 (by simp[lfI,lfK]:[((lfK .u8) (IntKind.wrap .u8 r1.1))]=[IntKind.wrap .u8 r1.1].map fun n=>[Lf.int .u8 n]))<|
 .grd (r1.2.size+(strOfNums [IntKind.wrap .u8 r1.1]).size≤9223372036854775807) fun h0=>
 .say [] (ok1 h0)<|
 .ret (dK 1) (r1.2++(strOfNums [IntKind.wrap .u8 r1.1]))
def Q51(p_n:Int):Option (ByteArray):=Mo.den (XV p_n)
theorem VP(p_n:Int):FV (Q51 p_n) 139 [.i_ p_n] (fun r=>.lf (.str r)):=dS Tryz.func139
def YS(p_n:Int)(p_b0:Y5):Mo (Y5):=
 .say [.order [(true,0),(true,1),(true,2),(true,3),(true,4),(false,5),(true,6),(true,7),(true,8),(false,9)] (some 9) []] ok0<|
 .cl (VP p_n) fun r0 _=>
 .grd (p_b0.fS.size+r0.size≤9223372036854775807) fun h0=>
 .say [] (ok1 h0)<|
 .rt [] 1 (Y5.mk (p_b0.fS++r0) p_b0.Y7 p_b0.Y8)
def Q1(p_n:Int)(p_b0:Y5):Option (Y5):=Mo.den (YS p_n p_b0)
theorem eF(p_n:Int)(p_b0:Y5):FH (Q1 p_n p_b0) 83 [.ptr 0 0,.i_ p_n] [bW p_b0] (fun _=>.tup []) (fun r=>[bW r]):=dA Tryz.func83
end
end Go.Proofs.YtflpefkohpjjpaaGreatDoor
