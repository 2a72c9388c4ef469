/- Printed by dec.py. -/
import Derived.Test.YtflpefkohpjjpaaGreatDoorQNNw5
set_option linter.unusedSimpArgs false
set_option linter.unusedVariables false
namespace Go.Proofs.YtflpefkohpjjpaaGreatDoor
open Go.RowKit
set_option maxRecDepth 20000
set_option maxHeartbeats 4000000
noncomputable section
abbrev yh(m:aH→Option (aH)):Prop:=∀p_p,FV (m p_p) 161 [.dat (aH.lf1 p_p)] (fun r=>.dat (aH.lf1 r))
abbrev Ef(m:(List aH)→Option (List aH)):Prop:=∀p_l,FH (m p_l) 243 [.lf (.rows 25 (p_l.map aH.lf)),.raw (.func (.func 161) #[] #[])] [] (fun r=>.lf (.rows 25 (r.map aH.lf))) (fun _=>[])
structure NS where
 m1:(p_p:aH)→Option (aH)
 ok1:yh m1
 m2:(p_l:List aH)→Option (List aH)
 ok2:Ef m2
def Tv(R_:NS)(p_p:aH):Mo (aH):=
 .cl (yc p_p.dW) fun r0 _=>
 .cl (nS p_p.fArg) fun r1 _=>
 .ask (Q38 p_p.fArgs) fun r2 h0=>
 .say [.gU [] (.lf (.rows 5 (r2.map aj.lf))) [],.rows (p_p.dJ.fC.map bU.lf)] (okc (NM _ _ h0) (ok1 (by simp[bU.dw]:p_p.dJ.fC.map bU.lf=[]++(p_p.dJ.fC.map bU.lf))))<|
 .grd ((([]:List bU).length+p_p.dJ.fC.length)*16≤140737488355328) fun h1=>
 .say [] (ok1 (cq_ bU.lf h1))<|
 .cl (V6 p_p.fExpr) fun r3 _=>
 .ask (R_.m2 p_p.dO) fun r4 h2=>
 .say [.gU [] (.lf (.rows 25 (r4.map aH.lf))) [],.at_ 0 0,.frz 2] (ok1 (R_.ok2 _ _ h2))<|
 .ret (dK 1) (aH.mk p_p.fOp r0 r1 r2 p_p.fN p_p.fM p_p.dJ r3 r4)
theorem Rl(R_:NS):yh fun p_p=>Mo.den (Tv R_ p_p):=fun _=>dS Tryz.func161
def NT(R_:NS)(p_l:List aH):Mo (List aH):=
 .nu p_l aH.lf<|
 .iB ((p_l.length:Int)==0) (.ret ⟨[.nil 0 25,.tod 0],[0],[],0⟩ ([]))<|
 .stop
theorem NU(R_:NS):Ef fun p_l=>Mo.den (NT R_ p_l):=fun _=>dA Tryz.func243
def ql:Nat→NS
 |0=>{ m1:=fun p_p=>none,ok1:=fun _ _ h=>(by cases h),m2:=fun p_l=>none,ok2:=fun _ _ h=>(by cases h) }
 |n_+1=>{ m1:=fun p_p=>Mo.den (Tv (ql n_) p_p),ok1:=Rl (ql n_),m2:=fun p_l=>Mo.den (NT (ql n_) p_l),ok2:=NU (ql n_) }
def Q86(p_p:aH):Option (aH):=(ql FU).m1 p_p
theorem V7:yh Q86:=(ql FU).ok1
def V8(p_x:aK):Mo (aK):=
 .cH [] (V5 p_x.iT) fun r0 _=>
 .ask (Q86 p_x.aP) fun r1 h0=>
 .say [.res (.dat (aH.lf1 r1)),.at_ 0 0,.frz 2] (ok1 (V7 _ _ h0))<|
 .ret (dK 1) (aK.Ui (aK.WO p_x r0) r1)
def YU(p_x:aK):Option (aK):=Mo.den (V8 p_x)
theorem Rn(p_x:aK):FV (YU p_x) 103 [.dat (aK.lf1 p_x)] (fun r=>.dat (aK.lf1 r)):=dS Tryz.func103
def X9(p_l:List aK):Mo (List aK):=
 .nu p_l aK.lf<|
 .iB ((p_l.length:Int)==0) (.say [] (ok1 (by simp[aK.dw]:(([]:List aK).map aK.lf)=[]))<|
 .ret ⟨[.lg 0 45 31,.iR 0 (([]:List aK).map aK.lf),.mvn 0],[0],[(1,0)],1⟩ (([]:List aK)))<|
 .stop
def Q99(p_l:List aK):Option (List aK):=Mo.den (X9 p_l)
theorem V9(p_l:List aK):FH (Q99 p_l) 157 [.lf (.rows 31 (p_l.map aK.lf)),.raw (.func (.func 103) #[] #[])] [] (fun _=>.own 0) (fun r=>[.row 45 31 (r.map aK.lf)]):=dA Tryz.func157
abbrev yj(m:ay→Option (ay)):Prop:=∀p_s,FV (m p_s) 158 [.dat (ay.lf1 p_s)] (fun r=>.dat (ay.lf1 r))
abbrev Eh(m:(List bn)→Option (List bn)):Prop:=∀p_l,FH (m p_l) 239 [.lf (.rows 22 (p_l.map bn.lf)),.raw (.func (.func 240) #[] #[])] [] (fun r=>.lf (.rows 22 (r.map bn.lf))) (fun _=>[])
abbrev Ei(m:(List ay)→Option (List ay)):Prop:=∀p_l,FH (m p_l) 241 [.lf (.rows 21 (p_l.map ay.lf)),.raw (.func (.func 158) #[] #[])] [] (fun r=>.lf (.rows 21 (r.map ay.lf))) (fun _=>[])
abbrev Ej(m:bn→Option (bn)):Prop:=∀p_p,FV (m p_p) 240 [.dat (bn.lf1 p_p)] (fun r=>.dat (bn.lf1 r))
structure yt where
 m1:(p_s:ay)→Option (ay)
 ok1:yj m1
 m2:(p_l:List bn)→Option (List bn)
 ok2:Eh m2
 m3:(p_l:List ay)→Option (List ay)
 ok3:Ei m3
 m4:(p_p:bn)→Option (bn)
 ok4:Ej m4
def Tz(R_:yt)(p_s:ay):Mo (ay):=
 .cl (nS p_s.iW) fun r0 _=>
 .cl (nS p_s.iY) fun r1 _=>
 .cH [] (NM p_s.kF) fun r2 _=>
 .cl (yc p_s.eP) fun r3 _=>
 .cH [] (R_.ok2 p_s.gY) fun r4 _=>
 .cH [] (R_.ok3 p_s.gZ) fun r5 _=>
 .ret (dK 1) (ay.mk p_s.jo p_s.iF r0 p_s.iH r1 r2 p_s.iI p_s.iJ r3 r4 p_s.iK r5 p_s.dP)
theorem Ro(R_:yt):yj fun p_s=>Mo.den (Tz R_ p_s):=fun _=>dS Tryz.func158
def NV(R_:yt)(p_l:List bn):Mo (List bn):=
 .nu p_l bn.lf<|
 .iB ((p_l.length:Int)==0) (.ret ⟨[.nil 0 22,.tod 0],[0],[],0⟩ ([]))<|
 .stop
theorem NW(R_:yt):Eh fun p_l=>Mo.den (NV R_ p_l):=fun _=>dA Tryz.func239
def NY(R_:yt)(p_l:List ay):Mo (List ay):=
 .nu p_l ay.lf<|
 .iB ((p_l.length:Int)==0) (.ret ⟨[.nil 0 21,.tod 0],[0],[],0⟩ ([]))<|
 .stop
theorem NZ(R_:yt):Ei fun p_l=>Mo.den (NY R_ p_l):=fun _=>dA Tryz.func241
def N7(R_:yt)(p_p:bn):Mo (bn):=
 .say [.order [(true,0),(true,1),(true,2),(true,3),(false,4),(true,5),(false,6)] (some 6) []] ok0<|
 .cl (R_.ok1 p_p.aI) fun r0 _=>
 .ret (dK 1) (bn.mk p_p.fName r0)
theorem N8(R_:yt):Ej fun p_p=>Mo.den (N7 R_ p_p):=fun _=>dS Tryz.func240
def ku:Nat→yt
 |0=>{ m1:=fun p_s=>none,ok1:=fun _ _ h=>(by cases h),m2:=fun p_l=>none,ok2:=fun _ _ h=>(by cases h),m3:=fun p_l=>none,ok3:=fun _ _ h=>(by cases h),m4:=fun p_p=>none,ok4:=fun _ _ h=>(by cases h) }
 |n_+1=>{ m1:=fun p_s=>Mo.den (Tz (ku n_) p_s),ok1:=Ro (ku n_),m2:=fun p_l=>Mo.den (NV (ku n_) p_l),ok2:=NW (ku n_),m3:=fun p_l=>Mo.den (NY (ku n_) p_l),ok3:=NZ (ku n_),m4:=fun p_p=>Mo.den (N7 (ku n_) p_p),ok4:=N8 (ku n_) }
def Q75(p_s:ay):Option (ay):=(ku FU).m1 p_s
theorem Wh:yj Q75:=(ku FU).ok1
def Wi(p_d:cu):Mo (cu):=
 .cH [] (V9 p_d.eU) fun r0 _=>
 .ask (Q75 p_d.aI) fun r1 h0=>
 .say [.res (.dat (ay.lf1 r1)),.at_ 0 0,.frz 2] (ok1 (Wh _ _ h0))<|
 .ret (dK 1) (cu.mk p_d.fName r0 r1 p_d.kR p_d.jE)
def YV(p_d:cu):Option (cu):=Mo.den (Wi p_d)
theorem Rq(p_d:cu):FV (YV p_d) 102 [.dat (cu.lf1 p_d)] (fun r=>.dat (cu.lf1 r)):=dS Tryz.func102
abbrev yu(m:au→Option (au)):Prop:=∀p_w,FV (m p_w) 48 [.dat (au.lf1 p_w)] (fun r=>.dat (au.lf1 r))
abbrev Em(m:(List au)→Option (List au)):Prop:=∀p_l,FH (m p_l) 47 [.lf (.rows 78 (p_l.map au.lf)),.raw (.func (.func 48) #[] #[])] [] (fun r=>.lf (.rows 78 (r.map au.lf))) (fun _=>[])
structure N9 where
 m1:(p_w:au)→Option (au)
 ok1:yu m1
 m2:(p_l:List au)→Option (List au)
 ok2:Em m2
def TA(R_:N9)(p_w:au):Mo (au):=
 .cl (nS p_w.gq) fun r0 _=>
 .cl (nS p_w.bF) fun r1 _=>
 .cl (nS p_w.cO) fun r2 _=>
 .cl (Rq p_w.bJ) fun r3 _=>
 .cl (Rn p_w.aG) fun r4 _=>
 .ask (R_.m2 p_w.dD) fun r5 h0=>
 .say [.gU [] (.lf (.rows 78 (r5.map au.lf))) [],.rows (p_w.dN.map lfI),.at_ 0 0,.frz 2] (okc (R_.ok2 _ _ h0) (ok1 (by simp[lfI,lfK]:p_w.dN.map lfI=[]++(p_w.dN.map lfI))))<|
 .grd ((([]:List Int).length+p_w.dN.length)*8≤140737488355328) fun h1=>
 .say [] (ok1 (cq_ lfI h1))<|
 .ret (dK 1) (au.mk p_w.aB p_w.fG r0 r1 r2 r3 r4 p_w.lI p_w.dZ r5 p_w.dN p_w.fH)
theorem Rt(R_:N9):yu fun p_w=>Mo.den (TA R_ p_w):=fun _=>dS Tryz.func48
def Oa(R_:N9)(p_l:List au):Mo (List au):=
 .nu p_l au.lf<|
 .iB ((p_l.length:Int)==0) (.ret ⟨[.nil 0 78,.tod 0],[0],[],0⟩ ([]))<|
 .stop
theorem Oc(R_:N9):Em fun p_l=>Mo.den (Oa R_ p_l):=fun _=>dA Tryz.func47
def qm:Nat→N9
 |0=>{ m1:=fun p_w=>none,ok1:=fun _ _ h=>(by cases h),m2:=fun p_l=>none,ok2:=fun _ _ h=>(by cases h) }
 |n_+1=>{ m1:=fun p_w=>Mo.den (TA (qm n_) p_w),ok1:=Rt (qm n_),m2:=fun p_l=>Mo.den (Oa (qm n_) p_l),ok2:=Oc (qm n_) }
def Q81(p_w:au):Option (au):=(qm FU).m1 p_w
theorem Wj:yu Q81:=(qm FU).ok1
def Ik(p_w:au):Mo (Bool):=
 .iG 8003 (decide ((2:Int)≤p_w.aB)) (.rt [1,16] 1 (decide ((p_w.aB:Int)≤7)))<|
 .stop
def Wn(p_w:au):Mo (List au):=
 .iB (p_w.aB==8) (.stop)<|
 .jk Tryz.f21 0 [1,1,0,0] 13 (fun r_=>⟨[(1,.ptr 0 0),(16,.b_ r_)],[cZ p_w]⟩) ⟨[(1,.ptr 0 0)],[cZ p_w]⟩ (Ik p_w) fun r0=>
 .iB (r0) (.ask (Q81 p_w) fun r1 h0=>
 .say [.res (.dat (au.lf1 r1)),.at_ 0 0,.Aq 1 ([r1].map au.lf)] (okc (Wj _ _ h0) (ok1 (by simp[au.dw]:[r1].map au.lf=[(au.lf1 r1)])))<|
 .ret (dK 1) ([r1]))<|
 .stop
def Ya(p_w:au):Option (List au):=Mo.den (Wn p_w)
theorem Ru(p_w:au):FV (Ya p_w) 21 [.dat (au.lf1 p_w)] (fun r=>.lf (.rows 78 (r.map au.lf))):=dS Tryz.func21
def Wp(p_v:aj):Mo (Bool):=
 .iB (p_v.aB==0) (.stop)<|
 .cl (pU p_v) fun r0 _=>
 .ret (dK 1) (r0)
def YW(p_v:aj):Option (Bool):=Mo.den (Wp p_v)
theorem Rw(p_v:aj):FV (YW p_v) 104 [.dat (aj.lf1 p_v)] .b_:=dS Tryz.func104
abbrev En(m:aj→Option (List Int)):Prop:=∀p_v,FH (m p_v) 105 [.raw (.slice none 0 0),.dat (aj.lf1 p_v)] [] (fun _=>.own 0) (fun r=>[.row 5 1 (r.map (lfK .u8))])
abbrev yw(m:aj→(List Int)→Option (List Int)):Prop:=∀p_v p_s0,FH (m p_v p_s0) 105 [.own 0,.dat (aj.lf1 p_v)] [.row 5 1 (p_s0.map (lfK .u8))] (fun _=>.own 1) (fun r=>[.dead,.row 5 1 (r.map (lfK .u8))])
structure qO where
 m1:(p_v:aj)→Option (List Int)
 ok1:En m1
 m2:(p_v:aj)→(p_s0:List Int)→Option (List Int)
 ok2:yw m2
def Il(R_:qO)(p_v:aj):Mo (((List Int))):=
 .stop
def TB(R_:qO)(p_v:aj):Mo (List Int):=
 .say [.rows ([IntKind.wrap .u8 p_v.aB].map (lfK .u8))] (ok1 (by simp[lfI,lfK]:[IntKind.wrap .u8 p_v.aB].map (lfK .u8)=[]++[((lfK .u8) (IntKind.wrap .u8 p_v.aB))]))<|
 .grd ((([]:List Int).length+[IntKind.wrap .u8 p_v.aB].length)*1≤140737488355328) fun h0=>
 .say [] (ok1 (by first|(simp;done)|simpa using h0:(([]:List (List Lf)).length+[((lfK .u8) (IntKind.wrap .u8 p_v.aB))].length)*1≤140737488355328))<|
 .jy [.kill 1] Tryz.f105 0 [1,1,0,1] 6 (.normal) (fun r_=>⟨[(0,.own 2)],[.dead,.dead,.row 5 1 (r_.map (lfK .u8))]⟩) ⟨[(0,.own 2),(3,.ptr 0 0),(19,.i_ p_v.aB)],[bV p_v,.dead,.row 5 1 ([IntKind.wrap .u8 p_v.aB].map (lfK .u8))]⟩ (Il R_ p_v) fun r0=>
 .ret ⟨[.mvn 2],[0],[(3,0)],1⟩ (r0)
theorem Rx(R_:qO):En fun p_v=>Mo.den (TB R_ p_v):=fun _=>dA Tryz.func105
def Oe(R_:qO)(p_s0:List Int)(p_v:aj):Mo (Bool):=
 .iB (p_v.aB==3) (.rt [0,3,19,20] 4 (p_v.aB==3))<|
 .iB (p_v.aB==9) (.stop)<|
 .rt [0,3,19,20] 4 (p_v.aB==10)
def Og(R_:qO)(p_v:aj):(Int×(List Int))→Mo ((Int×(List Int))⊕((List Int))):=fun(v0,l0)=>
 .iB (decide ((0:Int)≤v0)) (.say [.rows ((l0++[IntKind.wrap .u8 (tZ .u64 (gG .xor .u64 (IntKind.wrap .u64 p_v.dY) 9223372036854775808) v0)]).map (lfK .u8))] ok0<|
 .grd ((0:Int)≤v0) fun h0=>
 .say [] (okc h0 (ok1 (by simp[lfI,lfK]:(l0++[IntKind.wrap .u8 (tZ .u64 (gG .xor .u64 (IntKind.wrap .u64 p_v.dY) 9223372036854775808) v0)]).map (lfK .u8)=(l0.map (lfK .u8))++[((lfK .u8) (IntKind.wrap .u8 (tZ .u64 (gG .xor .u64 (IntKind.wrap .u64 p_v.dY) 9223372036854775808) v0)))])))<|
 .grd ((l0.length+[IntKind.wrap .u8 (tZ .u64 (gG .xor .u64 (IntKind.wrap .u64 p_v.dY) 9223372036854775808) v0)].length)*1≤140737488355328) fun h1=>
 .say [] (ok1 (by simpa using h1:((l0.map (lfK .u8)).length+[((lfK .u8) (IntKind.wrap .u8 (tZ .u64 (gG .xor .u64 (IntKind.wrap .u64 p_v.dY) 9223372036854775808) v0)))].length)*1≤140737488355328))<|
 .ret ⟨[],[0,5,6],[(5,3)],4⟩ (.inl (IntKind.wrap .i64 (v0-8),l0++[IntKind.wrap .u8 (tZ .u64 (gG .xor .u64 (IntKind.wrap .u64 p_v.dY) 9223372036854775808) v0)])))<|
 .rt [0] 4 (.inr (l0))
def Io(R_:qO)(p_s0:List Int)(p_v:aj):Mo (Bool):=
 .iB (p_v.aB==4) (.rt [0,3,19,39] 4 (p_v.aB==4))<|
 .stop
def Ip(R_:qO)(l0:List Int)(p_v:aj)(v0:Int):Mo (((List Int))):=
 .ask (pF p_v.fText v0) fun b0 h0=>
 .say [.byt b0,.rows ((l0++[(b0.toNat:Int)]).map (lfK .u8))] (okc (je h0) (ok1 (by simp[lfI,lfK]:(l0++[(b0.toNat:Int)]).map (lfK .u8)=(l0.map (lfK .u8))++[((lfK .u8) (b0.toNat:Int))])))<|
 .grd ((l0.length+[(b0.toNat:Int)].length)*1≤140737488355328) fun h1=>
 .say [] (ok1 (by simpa using h1:((l0.map (lfK .u8)).length+[((lfK .u8) (b0.toNat:Int))].length)*1≤140737488355328))<|
 .ask (pF p_v.fText v0) fun b1 h2=>
 .say [.byt b1] (ok1 (je h2))<|
 .iB ((b1.toNat:Int)==0) (.stop)<|
 .ret ⟨[],[0,3,45,46],[(5,3)],4⟩ (l0++[(b0.toNat:Int)])
def Iq(R_:qO)(p_v:aj):(Int×(List Int))→Mo ((Int×(List Int))⊕((List Int))):=fun(v0,l0)=>
 .iB (decide ((v0:Int)<(p_v.fText.size:Int))) (.jk Tryz.f105 1 [1,1,0,1,0,1,1,1,0,0,1,0,0,1,1,0] 14 (fun r_=>⟨[(0,.own 3),(3,.ptr 1 0),(45,.i_ (p_v.fText.size:Int)),(46,.i_ v0)],[.dead,bV p_v,.dead,.row 5 1 (r_.map (lfK .u8))]⟩) ⟨[(0,.own 3),(3,.ptr 1 0),(45,.i_ (p_v.fText.size:Int)),(46,.i_ v0)],[.dead,bV p_v,.dead,.row 5 1 (l0.map (lfK .u8))]⟩ (Ip R_ l0 p_v v0) fun r0=>
 .rt [0,3,45,46] 4 (.inl (IntKind.wrap .i64 (v0+1),r0)))<|
 .ret ⟨[.kill 1],[0],[],4⟩ (.inr (l0))
def Ir(R_:qO)(p_s0:List Int)(p_v:aj):Mo (((List Int))):=
 .jk Tryz.f105 1 [1,1,0,1,0,0,1] 1 (fun r_=>⟨[(0,.own 3),(3,.ptr 1 0),(19,.i_ p_v.aB),(20,.b_ r_)],[.dead,bV p_v,.dead,.row 5 1 ((p_s0++[IntKind.wrap .u8 p_v.aB]).map (lfK .u8))]⟩) ⟨[(0,.own 3),(3,.ptr 1 0),(19,.i_ p_v.aB),(20,.lf (.bool (p_v.aB==3)))],[.dead,bV p_v,.dead,.row 5 1 ((p_s0++[IntKind.wrap .u8 p_v.aB]).map (lfK .u8))]⟩ (Oe R_ p_s0 p_v) fun r0=>
 .iB (r0) (.l1y [.kill 1] Tryz.f105 1 [1,1,0,1,0,1,0,1,1,0] 0 (.exit 1) (fun(v0,l0)=>⟨[(0,.own 3),(5,.lf (.int .u64 (gG .xor .u64 (IntKind.wrap .u64 p_v.dY) 9223372036854775808))),(6,.i_ v0)],[.dead,.dead,.dead,.row 5 1 (l0.map (lfK .u8))]⟩) (fun r_=>⟨[(0,.own 3)],[.dead,.dead,.dead,.row 5 1 (r_.map (lfK .u8))]⟩) (Og R_ p_v) (56,(p_s0++[IntKind.wrap .u8 p_v.aB])) fun r1=>
 .rt [0] 4 (r1))<|
 .jk Tryz.f105 1 [1,1,0,1,0,1,1,0,1] 1 (fun r_=>⟨[(0,.own 3),(3,.ptr 1 0),(19,.i_ p_v.aB),(39,.b_ r_)],[.dead,bV p_v,.dead,.row 5 1 ((p_s0++[IntKind.wrap .u8 p_v.aB]).map (lfK .u8))]⟩) ⟨[(0,.own 3),(3,.ptr 1 0),(19,.i_ p_v.aB),(39,.lf (.bool (p_v.aB==4)))],[.dead,bV p_v,.dead,.row 5 1 ((p_s0++[IntKind.wrap .u8 p_v.aB]).map (lfK .u8))]⟩ (Io R_ p_s0 p_v) fun r2=>
 .iB (r2) (.l1 Tryz.f105 1 [1,1,0,1,0,1,1,1,0,0,1,0] 0 (.exit 3) (fun(v1,l2)=>⟨[(0,.own 3),(3,.ptr 1 0),(45,.i_ (p_v.fText.size:Int)),(46,.i_ v1)],[.dead,bV p_v,.dead,.row 5 1 (l2.map (lfK .u8))]⟩) (fun r_=>⟨[(0,.own 3)],[.dead,.dead,.dead,.row 5 1 (r_.map (lfK .u8))]⟩) (Iq R_ p_v) (0,(p_s0++[IntKind.wrap .u8 p_v.aB])) fun r3=>
 .say [.rows ((r3++[(0:Int),(0:Int)]).map (lfK .u8))] (ok1 (by simp[lfI,lfK]:(r3++[(0:Int),(0:Int)]).map (lfK .u8)=(r3.map (lfK .u8))++[((lfK .u8) (0:Int)),((lfK .u8) (0:Int))]))<|
 .grd ((r3.length+[(0:Int),(0:Int)].length)*1≤140737488355328) fun h0=>
 .say [] (ok1 (by simpa using h0:((r3.map (lfK .u8)).length+[((lfK .u8) (0:Int)),((lfK .u8) (0:Int))].length)*1≤140737488355328))<|
 .ret ⟨[],[0],[(5,3)],4⟩ (r3++[(0:Int),(0:Int)]))<|
 .stop
def TF(R_:qO)(p_v:aj)(p_s0:List Int):Mo (List Int):=
 .say [.rows ((p_s0++[IntKind.wrap .u8 p_v.aB]).map (lfK .u8))] (ok1 (by simp[lfI,lfK]:(p_s0++[IntKind.wrap .u8 p_v.aB]).map (lfK .u8)=(p_s0.map (lfK .u8))++[((lfK .u8) (IntKind.wrap .u8 p_v.aB))]))<|
 .grd ((p_s0.length+[IntKind.wrap .u8 p_v.aB].length)*1≤140737488355328) fun h0=>
 .say [] (ok1 (by simpa using h0:((p_s0.map (lfK .u8)).length+[((lfK .u8) (IntKind.wrap .u8 p_v.aB))].length)*1≤140737488355328))<|
 .jy [.kill 2] Tryz.f105 1 [1,1,0,1] 6 (.normal) (fun r_=>⟨[(0,.own 3)],[.dead,.dead,.dead,.row 5 1 (r_.map (lfK .u8))]⟩) ⟨[(0,.own 3),(3,.ptr 1 0),(19,.i_ p_v.aB)],[.dead,bV p_v,.dead,.row 5 1 ((p_s0++[IntKind.wrap .u8 p_v.aB]).map (lfK .u8))]⟩ (Ir R_ p_s0 p_v) fun r0=>
 .ret ⟨[.mvn 3],[0],[(4,1)],2⟩ (r0)
theorem Ry(R_:qO):yw fun p_v p_s0=>Mo.den (TF R_ p_v p_s0):=fun _ _=>dA Tryz.func105
def qo:Nat→qO
 |0=>{ m1:=fun p_v=>none,ok1:=fun _ _ h=>(by cases h),m2:=fun p_v p_s0=>none,ok2:=fun _ _ _ h=>(by cases h) }
 |n_+1=>{ m1:=fun p_v=>Mo.den (TB (qo n_) p_v),ok1:=Rx (qo n_),m2:=fun p_v p_s0=>Mo.den (TF (qo n_) p_v p_s0),ok2:=Ry (qo n_) }
def Q13(p_v:aj)(p_s0:List Int):Option (List Int):=(qo FU).m2 p_v p_s0
theorem Wq:yw Q13:=(qo FU).ok2
def Eo(l0:List Int)(p_desc:List Bool)(p_l:List aj)(v0:Int):Mo (Unit⊕((List Int))):=
 .gx aj.dw p_l v0 fun x0 _=>
 .cl (Rw x0) fun r0 _=>
 .iB (!r0) (.stop)<|
 .say [.num l0.length,.at_ 22 2,.tod 29] (ok1 (by simp:l0.length=(l0.map (lfK .u8)).length))<|
 .cH [0] (Wq x0 l0) fun r1 _=>
 .ask (wE p_desc v0) fun x1 h0=>
 .say [.row (lfB x1)] (ok1 (kV (fun _=>rfl) h0:(0:Int)≤v0∧(p_desc.map lfB)[v0.toNat]?=some (lfB x1)))<|
 .iB (x1) (.stop)<|
 .ret ⟨[.kill 1],[1,6,16,17,18],[(2,0)],3⟩ (.inr (r1))
def TG(l0:List Int)(p_desc:List Bool)(p_l:List aj)(v0:Int):Option (Unit⊕((List Int))):=Mo.den (Eo l0 p_desc p_l v0)
def yx(r_:Unit⊕((List Int))):Exit:=match r_ with
 |.inl o_=>.ret
 |.inr (o_)=>.normal
def yA(p_desc:List Bool)(p_l:List aj)(v0:Int)(r_:Unit⊕((List Int))):St:=match r_ with
 |.inl o_=>⟨[(4,.lf (.str ⟨#[]⟩)),(5,.i_ 8)],[.dead]⟩
 |.inr (o_)=>⟨[(1,.lf (.rows 1 (p_desc.map lfB))),(6,.own 0),(16,.lf (.rows 5 (p_l.map aj.lf))),(17,.i_ (p_l.length:Int)),(18,.i_ v0)],[.row 5 1 (o_.map (lfK .u8)),.dead,.dead]⟩
theorem Rz{l0:List Int}{p_desc:List Bool}{p_l:List aj}{v0:Int}{r_:Unit⊕((List Int))}(h:TG l0 p_desc p_l v0=some r_):pG Tryz.f50 0 [1,1,1,0,1,0,0,1,1,0] (yx r_) (yA p_desc p_l v0 r_) ⟨[(1,.lf (.rows 1 (p_desc.map lfB))),(6,.own 0),(16,.lf (.rows 5 (p_l.map aj.lf))),(17,.i_ (p_l.length:Int)),(18,.i_ v0)],[.row 5 1 (l0.map (lfK .u8))]⟩:=
 wC jw (Eo l0 p_desc p_l v0) yx (yA p_desc p_l v0) (by kernel_rfl) h
def Ai(p_desc:List Bool)(p_l:List aj):(Int×(List Int))→Mo ((Int×(List Int))⊕(Unit⊕((List Int)))):=fun(v0,l0)=>
 .iB (decide ((v0:Int)<(p_l.length:Int))) (.ask2 (TG l0 p_desc p_l v0) (fun _ _=>
 .stop) fun o0 h0=>
 .say [.pt_ 8 [1,6,16,17,18] 1 (yx (.inr (o0))) (yA p_desc p_l v0 (.inr (o0)))] (ok1 (Rz h0))<|
 .rt [1,6,16,17,18] 1 (.inl (IntKind.wrap .i64 (v0+1),o0)))<|
 .rt [6] 1 (.inr (.inr (l0)))
def Oh(p_desc:List Bool)(p_l:List aj)(v0:Int)(l0:List Int):Option (Unit⊕((List Int))):=jH (fun v_=>(Ai p_desc p_l v_).den) FU (v0,l0)
def Aj(p_desc:List Bool)(p_l:List aj):(Int×(List Int))→St:=fun(v0,l0)=>⟨[(1,.lf (.rows 1 (p_desc.map lfB))),(6,.own 0),(16,.lf (.rows 5 (p_l.map aj.lf))),(17,.i_ (p_l.length:Int)),(18,.i_ v0)],[.row 5 1 (l0.map (lfK .u8))]⟩
def tV(r_:Unit⊕((List Int))):Exit:=match r_ with
 |.inl o_=>.ret
 |.inr (o_)=>.exit 0
def oN  (r_:Unit⊕((List Int))):St:=match r_ with
 |.inl o_=>⟨[(4,.lf (.str ⟨#[]⟩)),(5,.i_ 8)],[.dead]⟩
 |.inr (o_)=>⟨[(6,.own 0)],[.row 5 1 (o_.map (lfK .u8))]⟩
theorem Oi{p_desc:List Bool}{p_l:List aj}{v0:Int}{l0:List Int}{r_:Unit⊕((List Int))}(h:Oh p_desc p_l v0 l0=some r_):pG Tryz.f50 0 [1,1,1,0,1,0] (tV r_) (oN r_) (Aj p_desc p_l (v0,l0)):=
 kU jw (body:=(Code.sub (bodyC Tryz.f50) [1,1,1,0,1,0,0])) (by kernel_rfl) (Ai p_desc p_l) (Aj p_desc p_l) tV oN (fun r_=>by rcases r_ with _|_<;>rfl) (fun v_=>by kernel_rfl) h
def YX(p_l:List aj)(p_desc:List Bool):Mo (ByteArray×Int):=
 .nu p_l aj.lf<|
 .nu p_desc lfB<|
 .iB ((p_l.length:Int) != (p_desc.length:Int)) (.stop)<|
 .say [.num p_l.length] (okc (ln_ p_l aj.lf) (ok1 (by simp[lfI,lfK]:(([]:List Int).map (lfK .u8))=[])))<|
 .ask2 (Oh p_desc p_l 0 ([]:List Int)) (fun _ _=>
 .stop) fun o0 h0=>
 .say [.part [.lg 6 5 1,.iR 0 (([]:List Int).map (lfK .u8))] 0 [1,6,16,17,18] 1 (tV (.inr (o0))) (oN (.inr (o0))).T (oN (.inr (o0))).H,.nums o0] (okc (Oi h0) (ok1 (by simp[lfI,lfK]:(o0.map (lfK .u8))=o0.map fun n=>[Lf.int .u8 n])))<|
 .ret (dK 2) (strOfNums o0,0)
def Q4(p_l:List aj)(p_desc:List Bool):Option (ByteArray×Int):=Mo.den (YX p_l p_desc)
theorem Yb(p_l:List aj)(p_desc:List Bool):FV (Q4 p_l p_desc) 50 [.lf (.rows 5 (p_l.map aj.lf)),.lf (.rows 1 (p_desc.map lfB))] (fun r=>.tup [.lf (.str r.1),.i_ r.2]):=dS Tryz.func50
def Oj(p_w:au):Mo (Bool):=
 .iG 6003 (p_w.aB==8) (.stop)<|
 .rt [1,3,19] 2 (p_w.aB==9)
def Ol(p_w:au)(r0:Bool):Mo (((List au))):=
 .iB (r0) (.stop)<|
 .say [] (ok1 (by simp[au.dw]:[p_w].map au.lf=[(au.lf1 p_w)]))<|
 .ret ⟨[.Aq 1 ([p_w].map au.lf),.kill 0],[3],[],2⟩ ([p_w])
def Iu(l0:List ByteArray)(r0:((List au)))(v0:Int)(x0:au):Mo (Bool):=
 .iG 18003 (x0.aB != 2) (.stop)<|
 .rt [4,6,22,23,24,35] 4 (false)
def Iw(l0:List ByteArray)(r0:((List au)))(v0:Int):Mo (((List ByteArray))):=
 .gx au.dw r0 v0 fun x0 _=>
 .jk Tryz.f24 0 [1,1,1,1,0,1,0,0,1,1,0,0,1,0,0] 23 (fun r_=>⟨[(4,.own 2),(6,.ptr 3 0),(22,.lf (.rows 78 (r0.map au.lf))),(23,.i_ (r0.length:Int)),(24,.i_ v0),(35,.b_ r_)],[.dead,.dead,.row 9 1 (l0.map lfS),.box 49 (.agg ((au.lf1 x0).map AV.lf))]⟩) ⟨[(4,.own 2),(6,.ptr 3 0),(22,.lf (.rows 78 (r0.map au.lf))),(23,.i_ (r0.length:Int)),(24,.i_ v0)],[.dead,.dead,.row 9 1 (l0.map lfS),.box 49 (.agg ((au.lf1 x0).map AV.lf))]⟩ (Iu l0 r0 v0 x0) fun r1=>
 .iB (r1) (.stop)<|
 .say [.at_ 22 5,.Aq 5 ([aj.mk 4 0 x0.fG [] [],x0.gq].map aj.lf),.Aq 6 ([false,false].map lfB)] (okc (by simp[aj.dw]:[aj.mk 4 0 x0.fG [] [],x0.gq].map aj.lf=[(aj.lf1 (aj.mk 4 0 x0.fG [] [])),(aj.lf1 x0.gq)]) (ok1 (by simp[lfB]:[false,false].map lfB=[(lfB false),(lfB false)])))<|
 .cl (Yb [aj.mk 4 0 x0.fG [] [],x0.gq] [false,false]) fun r2 _=>
 .iB (r2.2==0) (.say [.rows ((l0++[r2.1]).map lfS)] (ok1 (by simp[lfS]:(l0++[r2.1]).map lfS=(l0.map lfS)++[(lfS r2.1)]))<|
 .grd ((l0.length+[r2.1].length)*16≤140737488355328) fun h0=>
 .say [] (ok1 (cp_ lfS h0))<|
 .ret ⟨[],[4,22,23,24],[(8,2)],3⟩ (l0++[r2.1]))<|
 .stop
def Iy(r0:((List au))):(Int×(List ByteArray))→Mo ((Int×(List ByteArray))⊕((List ByteArray))):=fun(v0,l0)=>
 .iB (decide ((v0:Int)<(r0.length:Int))) (.jk Tryz.f24 0 [1,1,1,1,0,1,0,0,1,1,0] 8 (fun r_=>⟨[(4,.own 2),(22,.lf (.rows 78 (r0.map au.lf))),(23,.i_ (r0.length:Int)),(24,.i_ v0)],[.dead,.dead,.row 9 1 (r_.map lfS)]⟩) ⟨[(4,.own 2),(22,.lf (.rows 78 (r0.map au.lf))),(23,.i_ (r0.length:Int)),(24,.i_ v0)],[.dead,.dead,.row 9 1 (l0.map lfS)]⟩ (Iw l0 r0 v0) fun r1=>
 .rt [4,22,23,24] 3 (.inl (IntKind.wrap .i64 (v0+1),r1)))<|
 .rt [4] 3 (.inr (l0))
def Yc(p_w:au):Mo (List ByteArray):=
 .jk Tryz.f24 0 [1,1,0,0] 11 (fun r_=>⟨[(1,.ptr 0 0),(3,.own 1),(19,.b_ r_)],[cZ p_w,.row 49 78 [(au.lf1 p_w)]]⟩) ⟨[(1,.ptr 0 0),(3,.own 1)],[cZ p_w,.row 49 78 [(au.lf1 p_w)]]⟩ (Oj p_w) fun r0=>
 .jk Tryz.f24 0 [1,1,0,1] 1 (fun r_=>⟨[(3,.lf (.rows 78 (r_.map au.lf)))],[.dead,.dead]⟩) ⟨[(1,.ptr 0 0),(3,.own 1),(19,.b_ r0)],[cZ p_w,.row 49 78 [(au.lf1 p_w)]]⟩ (Ol p_w r0) fun r1=>
 .say [.num r1.length] (okc (ln_ r1 au.lf) (ok1 (by simp[lfS]:(([]:List ByteArray).map lfS)=[])))<|
 .l1y [.lg 4 9 1,.iR 2 (([]:List ByteArray).map lfS)] Tryz.f24 0 [1,1,1,1,0,1,0] 0 (.exit 0) (fun(v0,l0)=>⟨[(4,.own 2),(22,.lf (.rows 78 (r1.map au.lf))),(23,.i_ (r1.length:Int)),(24,.i_ v0)],[.dead,.dead,.row 9 1 (l0.map lfS)]⟩) (fun r_=>⟨[(4,.own 2)],[.dead,.dead,.row 9 1 (r_.map lfS)]⟩) (Iy r1) (0,([]:List ByteArray)) fun r2=>
 .cH [2] (O5 r2) fun r3 _=>
 .ask (WX r3) fun r4 h0=>
 .say [.gU [2] (.own 1) [.dead,.row 9 1 (r4.map lfS)],.at_ 0 0,.frz 3] (ok1 (O6 _ _ h0))<|
 .ret (dK 1) (r4)
def Q52(p_w:au):Option (List ByteArray):=Mo.den (Yc p_w)
theorem Ws(p_w:au):FV (Q52 p_w) 24 [.dat (au.lf1 p_w)] (fun r=>.lf (.rows 1 (r.map lfS))):=dS Tryz.func24
theorem YZ:Je (opsOf (Code.sub (bodyC Tryz.f13) [1,1,1,1,1,1,0])) [(true,0),(false,1),(true,2),(true,3),(false,4),(false,5),(true,6),(true,7),(true,8),(true,9),(false,10),(true,11),(true,12),(true,13),(true,14),(true,15),(true,16),(true,17),(true,18),(true,19),(true,20),(true,21),(true,22),(true,23),(true,24),(true,25),(true,26),(true,27),(false,28),(true,29),(true,30),(true,31),(true,32),(true,33),(true,34),(true,35),(true,36),(true,37),(true,38),(true,39),(true,40),(false,41),(true,42),(true,43),(true,44),(true,45),(true,46),(false,47),(true,48),(true,49),(true,50),(true,51),(true,52),(true,53),(false,54),(true,55),(true,56),(true,57),(true,58),(true,59),(true,60),(false,61),(true,62),(true,63),(true,65),(false,64),(false,66),(true,67),(true,68),(true,69)] none=true:=by kernel_rfl
def Wu :Mo (Bool):=
 .cl (BR 5 1 1) fun r0 _=>
 .cl (xu r0) fun r1 _=>
 .cl (Nb r1.1) fun r2 _=>
 .cl (Nb ⟨#[]⟩) fun r3 _=>
 .ask (XI (aZ.mk 1 5 ⟨#[]⟩ 0 (au.uP au.z 1))) fun r4 h0=>
 .say [.res (.tup [.lf (.str r4.1),.i_ r4.2]),.Ar [(true,0),(false,1),(true,2),(true,3),(false,4),(false,5),(true,6),(true,7),(true,8),(true,9),(false,10),(true,11),(true,12),(true,13),(true,14),(true,15),(true,16),(true,17),(true,18),(true,19),(true,20),(true,21),(true,22),(true,23),(true,24),(true,25),(true,26),(true,27),(false,28),(true,29),(true,30),(true,31),(true,32),(true,33),(true,34),(true,35),(true,36),(true,37),(true,38),(true,39),(true,40),(false,41),(true,42),(true,43),(true,44),(true,45),(true,46),(false,47),(true,48),(true,49),(true,50),(true,51),(true,52),(true,53),(false,54),(true,55),(true,56),(true,57),(true,58),(true,59),(true,60),(false,61),(true,62),(true,63),(true,65),(false,64),(false,66),(true,67),(true,68),(true,69)] none []] (okc (xu _ _ h0) (ok1 YZ))<|
 .cl (wV r0) fun r5 _=>
 .iG 14003 (r5==0) (.cl (BR 5 2 1) fun r6 _=>
 .cl (wV r6) fun r7 _=>
 .iG 14008 (r7==8) (.cl (wV (aZ.mk (-1) 0 ⟨#[]⟩ 0 au.z)) fun r8 _=>
 .iG 14013 (r8==24) (.iG 14017 (r1.2==0) (.iG 14021 (r2.2==0) (.iG 14025 (r3.2==4) (.cl (Rf r2.1 r0) fun r9 _=>
 .iG 14030 (r9) (.iG 14034 (r4.2==0) (.iG 14039 (decide ((5:Int)<(r4.1.size:Int))) (.grd ((0:Int)≤0∧(0:Int)≤5∧5≤(r4.1.size:Int)) fun h1=>
 .say [] (ok1 h1)<|
 .iG 14044 (decide ((r4.1.extract (0:Int).toNat (5:Int).toNat:ByteArray)=(⟨#[2,10,0,0,2]⟩:ByteArray))) (.ask (Ya r0.o8) fun r10 h2=>
 .say [.res (.lf (.rows 78 (r10.map au.lf))),.num r10.length] (okc (Ru _ _ h2) (ok1 (ln_ r10 au.lf)))<|
 .iG 14051 ((r10.length:Int)==1) (.ask (Q52 r0.o8) fun r11 h3=>
 .say [.res (.lf (.rows 1 (r11.map lfS))),.num r11.length] (okc (Ws _ _ h3) (ok1 (ln_ r11 lfS)))<|
 .iG 14058 ((r11.length:Int)==1) (.cl (lQ r0 r0) fun r12 _=>
 .iG 14063 (r12) (.cl (BR 4 1 1) fun r13 _=>
 .cl (lQ r13 r0) fun r14 _=>
 .ret (dK 1) (!r14))<|
 .stop)<|
 .stop)<|
 .stop)<|
 .stop)<|
 .stop)<|
 .stop)<|
 .stop)<|
 .stop)<|
 .stop)<|
 .stop)<|
 .stop)<|
 .stop)<|
 .stop
def Yd :Option (Bool):=Mo.den (Wu )
theorem RD:FV (Yd ) 13 [] .b_:=dS Tryz.func13
def Ep(p_a:gK)(p_b:gK)(p_c:gK):Mo (Bool):=
 .cl (lQ (aZ.mk p_a.f0 p_a.f1 ⟨#[]⟩ 0 au.z) (aZ.mk p_b.f0 p_b.f1 ⟨#[]⟩ 0 au.z)) fun r0 _=>
 .iG 6003 (r0) (.rt [7,8,9,32] 6 (true))<|
 .cl (lQ (aZ.mk p_b.f0 p_b.f1 ⟨#[]⟩ 0 au.z) (aZ.mk p_a.f0 p_a.f1 ⟨#[]⟩ 0 au.z)) fun r1 _=>
 .rt [7,8,9,32] 6 (r1)
def Es(p_a:gK)(p_b:gK)(p_c:gK)(r0:Bool):Mo (Bool):=
 .iG 6008 (r0) (.cl (lQ (aZ.mk p_a.f0 p_a.f1 ⟨#[]⟩ 0 au.z) (aZ.mk p_b.f0 p_b.f1 ⟨#[]⟩ 0 au.z)) fun r1 _=>
 .iG 6013 (!r1) (.ret ⟨[.kill 4,.kill 5],[7,49],[],6⟩ (true))<|
 .cl (lQ (aZ.mk p_b.f0 p_b.f1 ⟨#[]⟩ 0 au.z) (aZ.mk p_c.f0 p_c.f1 ⟨#[]⟩ 0 au.z)) fun r2 _=>
 .iG 6019 (!r2) (.ret ⟨[.kill 4,.kill 5],[7,49],[],6⟩ (true))<|
 .cl (lQ (aZ.mk p_a.f0 p_a.f1 ⟨#[]⟩ 0 au.z) (aZ.mk p_c.f0 p_c.f1 ⟨#[]⟩ 0 au.z)) fun r3 _=>
 .ret ⟨[.kill 4,.kill 5],[7,49],[],6⟩ (r3))<|
 .ret ⟨[.kill 4,.kill 5],[7,49],[],6⟩ (false)
def Ak(p_a:gK)(r0:Bool):Mo (Bool):=
 .iG 6025 (r0) (.cl (lQ (aZ.mk p_a.f0 p_a.f1 ⟨#[]⟩ 0 au.z) (aZ.mk p_a.f0 p_a.f1 ⟨#[]⟩ 0 au.z)) fun r1 _=>
 .ret ⟨[.kill 3],[54],[],6⟩ (r1))<|
 .ret ⟨[.kill 3],[54],[],6⟩ (false)
def Am(r0:Bool):Mo (Bool):=
 .aC 6030 (r0) [57] 6 (RD)
def Ap(r0:Bool):Mo (Unit):=
 .rt [6] 6 ()
def Ye(p_a:gK)(p_b:gK)(p_c:gK):Mo (Bool):=
 .say [.kJ (.q 0 (.q 1 (.q 2 (.q 3 (.q 4 (.q 5 (.q 6 (.q 7 (.q 8 (.q 9 (.q 10 (.q 11 (.q 12 (.q 13 (.q 14 (.alt 15 (.alt 16 (.l 17 (.l 18 (.l 19 (.l 20 .fin)))) (.l 17 (.l 16 (.l 18 (.l 19 (.l 20 .fin)))))) (.alt 16 (.alt 15 (.l 17 (.l 18 (.l 19 (.l 20 .fin)))) (.l 17 (.l 15 (.l 18 (.l 19 (.l 20 .fin)))))) (.l 17 (.alt 15 (.l 16 (.l 18 (.l 19 (.l 20 .fin)))) (.l 16 (.l 15 (.l 18 (.l 19 (.l 20 .fin)))))))))))))))))))))))) (some 20) [3,4,5] [.both [.at_ 4 15,.resv 3,.slot 3,.both [.slot 4,.slot 5] [.slot 5,.slot 4]] [.both [.at_ 4 16,.resv 3,.slot 4,.both [.slot 3,.slot 5] [.slot 5,.slot 3]] [.at_ 4 17,.resv 3,.slot 5,.both [.slot 3,.slot 4] [.slot 4,.slot 3]]]] [7,8,9] 6 [(7,.ptr 3 0),(8,.ptr 4 0),(9,.ptr 5 0)] [iE p_a,iE p_b,iE p_c,.box 51 (gu Z51 [(0,.i_ p_a.f0),(1,.i_ p_a.f1)]),.box 51 (gu Z51 [(0,.i_ p_b.f0),(1,.i_ p_b.f1)]),.box 51 (gu Z51 [(0,.i_ p_c.f0),(1,.i_ p_c.f1)])]] (okc (rf_ ⟨[(7,.ptr 3 0),(8,.ptr 4 0),(9,.ptr 5 0)],[iE p_a,iE p_b,iE p_c,.box 51 (gu Z51 [(0,.i_ p_a.f0),(1,.i_ p_a.f1)]),.box 51 (gu Z51 [(0,.i_ p_b.f0),(1,.i_ p_b.f1)]),.box 51 (gu Z51 [(0,.i_ p_c.f0),(1,.i_ p_c.f1)])]⟩) (okc (rf_ ⟨[(7,.ptr 3 0),(8,.ptr 4 0),(9,.ptr 5 0)],[iE p_a,iE p_b,iE p_c,.box 51 (gu Z51 [(0,.i_ p_a.f0),(1,.i_ p_a.f1)]),.box 51 (gu Z51 [(0,.i_ p_b.f0),(1,.i_ p_b.f1)]),.box 51 (gu Z51 [(0,.i_ p_c.f0),(1,.i_ p_c.f1)])]⟩) (okc (rf_ ⟨[(7,.ptr 3 0),(8,.ptr 4 0),(9,.ptr 5 0)],[iE p_a,iE p_b,iE p_c,.box 51 (gu Z51 [(0,.i_ p_a.f0),(1,.i_ p_a.f1)]),.box 51 (gu Z51 [(0,.i_ p_b.f0),(1,.i_ p_b.f1)]),.box 51 (gu Z51 [(0,.i_ p_c.f0),(1,.i_ p_c.f1)])]⟩) (okc (rf_ ⟨[(7,.ptr 3 0),(8,.ptr 4 0),(9,.ptr 5 0)],[iE p_a,iE p_b,iE p_c,.box 51 (gu Z51 [(0,.i_ p_a.f0),(1,.i_ p_a.f1)]),.box 51 (gu Z51 [(0,.i_ p_b.f0),(1,.i_ p_b.f1)]),.box 51 (gu Z51 [(0,.i_ p_c.f0),(1,.i_ p_c.f1)])]⟩) (okc (rf_ ⟨[(7,.ptr 3 0),(8,.ptr 4 0),(9,.ptr 5 0)],[iE p_a,iE p_b,iE p_c,.box 51 (gu Z51 [(0,.i_ p_a.f0),(1,.i_ p_a.f1)]),.box 51 (gu Z51 [(0,.i_ p_b.f0),(1,.i_ p_b.f1)]),.box 51 (gu Z51 [(0,.i_ p_c.f0),(1,.i_ p_c.f1)])]⟩) (ok1 (rf_ ⟨[(7,.ptr 3 0),(8,.ptr 4 0),(9,.ptr 5 0)],[iE p_a,iE p_b,iE p_c,.box 51 (gu Z51 [(0,.i_ p_a.f0),(1,.i_ p_a.f1)]),.box 51 (gu Z51 [(0,.i_ p_b.f0),(1,.i_ p_b.f1)]),.box 51 (gu Z51 [(0,.i_ p_c.f0),(1,.i_ p_c.f1)])]⟩)))))))<|
 .sy [.kill 0,.kill 1,.kill 2] Tryz.f8 0 [1,1,0] 0 8 2 (fun r_=>⟨[(7,.ptr 3 0),(8,.ptr 4 0),(9,.ptr 5 0),(32,.b_ r_)],[.dead,.dead,.dead,.box 51 (gu Z51 [(0,.i_ p_a.f0),(1,.i_ p_a.f1)]),.box 51 (gu Z51 [(0,.i_ p_b.f0),(1,.i_ p_b.f1)]),.box 51 (gu Z51 [(0,.i_ p_c.f0),(1,.i_ p_c.f1)])]⟩) ⟨[(7,.ptr 3 0),(8,.ptr 4 0),(9,.ptr 5 0)],[.dead,.dead,.dead,.box 51 (gu Z51 [(0,.i_ p_a.f0),(1,.i_ p_a.f1)]),.box 51 (gu Z51 [(0,.i_ p_b.f0),(1,.i_ p_b.f1)]),.box 51 (gu Z51 [(0,.i_ p_c.f0),(1,.i_ p_c.f1)])]⟩ (Ep p_a p_b p_c) fun r0=>
 .sk Tryz.f8 0 [1,1,0] 8 17 2 (fun r_=>⟨[(7,.ptr 3 0),(49,.b_ r_)],[.dead,.dead,.dead,.box 51 (gu Z51 [(0,.i_ p_a.f0),(1,.i_ p_a.f1)]),.dead,.dead]⟩) ⟨[(7,.ptr 3 0),(8,.ptr 4 0),(9,.ptr 5 0),(32,.b_ r0)],[.dead,.dead,.dead,.box 51 (gu Z51 [(0,.i_ p_a.f0),(1,.i_ p_a.f1)]),.box 51 (gu Z51 [(0,.i_ p_b.f0),(1,.i_ p_b.f1)]),.box 51 (gu Z51 [(0,.i_ p_c.f0),(1,.i_ p_c.f1)])]⟩ (Es p_a p_b p_c r0) fun r1=>
 .sk Tryz.f8 0 [1,1,0] 25 5 2 (fun r_=>⟨[(54,.b_ r_)],[.dead,.dead,.dead,.dead,.dead,.dead]⟩) ⟨[(7,.ptr 3 0),(49,.b_ r1)],[.dead,.dead,.dead,.box 51 (gu Z51 [(0,.i_ p_a.f0),(1,.i_ p_a.f1)]),.dead,.dead]⟩ (Ak p_a r1) fun r2=>
 .sb Tryz.f8 0 [1,1,0] 30 3 2 [] [.dead,.dead,.dead,.dead,.dead,.dead] 54 57 r2 (Am r2) fun r3=>
 .sk Tryz.f8 0 [1,1,0] 33 1 2 (fun r_=>⟨[(6,.b_ r3)],[.dead,.dead,.dead,.dead,.dead,.dead]⟩) ⟨[(57,.b_ r3)],[.dead,.dead,.dead,.dead,.dead,.dead]⟩ (Ap r3) fun r4=>
 .ret (dK 1) (r3)
def Q7(p_a:gK)(p_b:gK)(p_c:gK):Option (Bool):=Mo.den (Ye p_a p_b p_c)
theorem Yf(p_a:gK)(p_b:gK)(p_c:gK):FV (Q7 p_a p_b p_c) 8 [.dat (gK.lf1 p_a),.dat (gK.lf1 p_b),.dat (gK.lf1 p_c)] .b_:=dS Tryz.func8
end
end Go.Proofs.YtflpefkohpjjpaaGreatDoor
